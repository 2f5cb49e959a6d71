-- Written by a program of this session (wip/p2) out of the translation; Lean checks it.
import Derived.Test.YtaalmkkekbhpnaaSq
import Derived.Test.YtaalmkkekbhpnaaPRax0
import Derived.Test.YtaalmkkekbhpnaaPRax6
import Derived.Test.YtaalmkkekbhpnaaPRax7
import Derived.Test.YtaalmkkekbhpnaaPRax8
import Derived.WalkMore
namespace Go.Proofs.Ytaalmkkekbhpnaa.PRa
open Go.RowKit Go.Proofs.YtaalmkkekbhpnaaW.PrintWords Go.Proofs.YtaalmkkekbhpnaaW.PrintLast Go.Proofs.YtaalmkkekbhpnaaW.PrintMore
attribute [local go_sem] max2_int min2_int max_two min_two max_three min_three max_four min_four   -- for this text's walks alone
set_option linter.unusedVariables false
set_option linter.unusedSimpArgs false
open Go.Proofs.Ytaalmkkekbhpnaa.Opn Go.Proofs.Ytaalmkkekbhpnaa.Giv

/-! ### resolve_Span: function 14 -/
mutual
def resolve_Span.j0 : Nat → List (List ByteArray) → Bool → Int → Int → ByteArray → Int → Int → ByteArray → Option (Bool × Int × Int × Int × Int)
 | 0, _, _, _, _, _, _, _, _ => none
 | k + 1, x0, x32, x164000, x164001, x164002, x165000, x165001, x165002 => if x32 = true then (some (false, 0, 0, 0, 2)) else (if x164000 = 4 then (resolve_Span.j1 k x0 (x165000 == 4) x164000 x164001 x164002 x165000 x165001 x165002) else (resolve_Span.j1 k x0 false x164000 x164001 x164002 x165000 x165001 x165002))
def resolve_Span.j1 : Nat → List (List ByteArray) → Bool → Int → Int → ByteArray → Int → Int → ByteArray → Option (Bool × Int × Int × Int × Int)
 | 0, _, _, _, _, _, _, _, _ => none
 | k + 1, x0, x41, x164000, x164001, x164002, x165000, x165001, x165002 => if x41 = true then (resolve_Span.j2 k x0 x164000 x164001 x164002 1 0 (⟨#[]⟩ : ByteArray)) else (resolve_Span.j2 k x0 x164000 x164001 x164002 x165000 x165001 x165002)
def resolve_Span.j2 : Nat → List (List ByteArray) → Int → Int → ByteArray → Int → Int → ByteArray → Option (Bool × Int × Int × Int × Int)
 | 0, _, _, _, _, _, _, _ => none
 | k + 1, x0, x164000, x164001, x164002, x165000, x165001, x165002 => (resolve_sure.f k x0 x164000 x164001 x164002 false).bind fun bt168 => ((resolve_sure.f k x0 x165000 x165001 x165002 true).bind fun bt170 => (if bt168.2 = true then (resolve_Span.j3 k x0 bt168.1 bt168.2 bt170.1 bt170.2 false x164000 x164001 x164002 x165000 x165001 x165002) else (resolve_Span.j3 k x0 bt168.1 bt168.2 bt170.1 bt170.2 (!bt170.2) x164000 x164001 x164002 x165000 x165001 x165002)))
def resolve_Span.j3 : Nat → List (List ByteArray) → Int → Bool → Int → Bool → Bool → Int → Int → ByteArray → Int → Int → ByteArray → Option (Bool × Int × Int × Int × Int)
 | 0, _, _, _, _, _, _, _, _, _, _, _, _ => none
 | k + 1, x0, x8, x9, x10, x11, x55, x164000, x164001, x164002, x165000, x165001, x165002 => if x55 = true then (resolve_Span.l0 k 1 0 x164000 x164001 x164002 x165000 x165001 x165002) else (if x11 = true then (if x9 = true then (if x8 > x10 then ((resolve_Clamp.f x10 x8).bind fun bt174 => (some (false, bt174.1, bt174.2, 0, 0))) else (if x8 = x10 then ((resolve_Clamp.f x8 (wrap64 (x10 + 1))).bind fun bt176 => (some (false, bt176.1, bt176.2, 0, 0))) else ((resolve_Clamp.f x8 x10).bind fun bt178 => (some (false, bt178.1, bt178.2, 0, 0))))) else ((resolve_far.f k x0 x10 x164000 x164001 x164002 (-1)).bind fun t180 => ((resolve_Clamp.f t180 x10).bind fun bt181 => (some (false, bt181.1, bt181.2, 0, 0))))) else ((resolve_far.f k x0 x8 x165000 x165001 x165002 1).bind fun t183 => ((resolve_Clamp.f x8 t183).bind fun bt184 => (some (false, bt184.1, bt184.2, 0, 0)))))
def resolve_Span.l0 : Nat → Int → Int → Int → Int → ByteArray → Int → Int → ByteArray → Option (Bool × Int × Int × Int × Int)
 | 0, _, _, _, _, _, _, _, _ => none
 | k + 1, x12, x65, x164000, x164001, x164002, x165000, x165001, x165002 => if x65 < 2 then (if x65 = 0 then (if x164000 = 4 then (if x164002.toList = ([] : List UInt8) then (some (true, 0, 0, x164001, 0)) else (resolve_Span.l0 k x12 (wrap64 (x65 + 1)) x164000 x164001 x164002 x165000 x165001 x165002)) else (resolve_Span.l0 k x12 (wrap64 (x65 + 1)) x164000 x164001 x164002 x165000 x165001 x165002)) else (if x65 = 1 then (if x165000 = 4 then (if x165002.toList = ([] : List UInt8) then (some (true, 0, 0, x165001, 0)) else (resolve_Span.l0 k x12 (wrap64 (x65 + 1)) x164000 x164001 x164002 x165000 x165001 x165002)) else (resolve_Span.l0 k x12 (wrap64 (x65 + 1)) x164000 x164001 x164002 x165000 x165001 x165002)) else (none))) else (some (true, 0, 0, x12, 0))
end
def resolve_Span.f (k : Nat) (l0 : List (List ByteArray)) (a1_0 : Int) (a1_1 : Int) (a1_2 : ByteArray) (a2_0 : Int) (a2_1 : Int) (a2_2 : ByteArray) : Option (Bool × Int × Int × Int × Int) := if (l0.length : Int) = 0 then (resolve_Span.j0 k l0 true a1_0 a1_1 a1_2 a2_0 a2_1 a2_2) else (if (l0.length : Int) > 10001 then (resolve_Span.j0 k l0 true a1_0 a1_1 a1_2 a2_0 a2_1 a2_2) else ((line_Good.f k a1_0 a1_1 a1_2).bind fun t166 => (if t166 = true then ((line_Good.f k a2_0 a2_1 a2_2).bind fun t167 => (resolve_Span.j0 k l0 (!t167) a1_0 a1_1 a1_2 a2_0 a2_1 a2_2)) else (resolve_Span.j0 k l0 true a1_0 a1_1 a1_2 a2_0 a2_1 a2_2))))
theorem resolve_Span.mono_l : ∀ k, (∀ y0 y1 y2 y3 y4 y5 y6 y7, LeO (resolve_Span.j0 k y0 y1 y2 y3 y4 y5 y6 y7) (resolve_Span.j0 (k + 1) y0 y1 y2 y3 y4 y5 y6 y7)) ∧ (∀ y0 y1 y2 y3 y4 y5 y6 y7, LeO (resolve_Span.j1 k y0 y1 y2 y3 y4 y5 y6 y7) (resolve_Span.j1 (k + 1) y0 y1 y2 y3 y4 y5 y6 y7)) ∧ (∀ y0 y1 y2 y3 y4 y5 y6, LeO (resolve_Span.j2 k y0 y1 y2 y3 y4 y5 y6) (resolve_Span.j2 (k + 1) y0 y1 y2 y3 y4 y5 y6)) ∧ (∀ y0 y1 y2 y3 y4 y5 y6 y7 y8 y9 y10 y11, LeO (resolve_Span.j3 k y0 y1 y2 y3 y4 y5 y6 y7 y8 y9 y10 y11) (resolve_Span.j3 (k + 1) y0 y1 y2 y3 y4 y5 y6 y7 y8 y9 y10 y11)) ∧ (∀ y0 y1 y2 y3 y4 y5 y6 y7, LeO (resolve_Span.l0 k y0 y1 y2 y3 y4 y5 y6 y7) (resolve_Span.l0 (k + 1) y0 y1 y2 y3 y4 y5 y6 y7))
 | 0 => ⟨fun _ _ _ _ _ _ _ _ r h => by simp [resolve_Span.j0] at h, fun _ _ _ _ _ _ _ _ r h => by simp [resolve_Span.j1] at h, fun _ _ _ _ _ _ _ r h => by simp [resolve_Span.j2] at h, fun _ _ _ _ _ _ _ _ _ _ _ _ r h => by simp [resolve_Span.j3] at h, fun _ _ _ _ _ _ _ _ r h => by simp [resolve_Span.l0] at h⟩
 | k + 1 => by
  obtain ⟨ih0, ih1, ih2, ih3, ih4⟩ := resolve_Span.mono_l k
  refine ⟨?_, ?_, ?_, ?_, ?_⟩
  ·intro y0 y1 y2 y3 y4 y5 y6 y7
   unfold resolve_Span.j0
   repeat' first
   | (with_reducible exact ih0 _ _ _ _ _ _ _ _)
   | (with_reducible exact ih1 _ _ _ _ _ _ _ _)
   | (with_reducible exact ih2 _ _ _ _ _ _ _)
   | (with_reducible exact ih3 _ _ _ _ _ _ _ _ _ _ _ _)
   | (with_reducible exact ih4 _ _ _ _ _ _ _ _)
   | (with_reducible exact line_Good.mono _ _ _ _)
   | (with_reducible exact resolve_far.mono _ _ _ _ _ _ _)
   | (with_reducible exact resolve_sure.mono _ _ _ _ _ _)
   | (with_reducible exact LeO.refl _)
   | (with_reducible exact LeO.none _)
   | (with_reducible refine LeO.ite ?_ ?_)
   | (with_reducible refine LeO.bind ?_ (fun _ => ?_))
  ·intro y0 y1 y2 y3 y4 y5 y6 y7
   unfold resolve_Span.j1
   repeat' first
   | (with_reducible exact ih0 _ _ _ _ _ _ _ _)
   | (with_reducible exact ih1 _ _ _ _ _ _ _ _)
   | (with_reducible exact ih2 _ _ _ _ _ _ _)
   | (with_reducible exact ih3 _ _ _ _ _ _ _ _ _ _ _ _)
   | (with_reducible exact ih4 _ _ _ _ _ _ _ _)
   | (with_reducible exact line_Good.mono _ _ _ _)
   | (with_reducible exact resolve_far.mono _ _ _ _ _ _ _)
   | (with_reducible exact resolve_sure.mono _ _ _ _ _ _)
   | (with_reducible exact LeO.refl _)
   | (with_reducible exact LeO.none _)
   | (with_reducible refine LeO.ite ?_ ?_)
   | (with_reducible refine LeO.bind ?_ (fun _ => ?_))
  ·intro y0 y1 y2 y3 y4 y5 y6
   unfold resolve_Span.j2
   repeat' first
   | (with_reducible exact ih0 _ _ _ _ _ _ _ _)
   | (with_reducible exact ih1 _ _ _ _ _ _ _ _)
   | (with_reducible exact ih2 _ _ _ _ _ _ _)
   | (with_reducible exact ih3 _ _ _ _ _ _ _ _ _ _ _ _)
   | (with_reducible exact ih4 _ _ _ _ _ _ _ _)
   | (with_reducible exact line_Good.mono _ _ _ _)
   | (with_reducible exact resolve_far.mono _ _ _ _ _ _ _)
   | (with_reducible exact resolve_sure.mono _ _ _ _ _ _)
   | (with_reducible exact LeO.refl _)
   | (with_reducible exact LeO.none _)
   | (with_reducible refine LeO.ite ?_ ?_)
   | (with_reducible refine LeO.bind ?_ (fun _ => ?_))
  ·intro y0 y1 y2 y3 y4 y5 y6 y7 y8 y9 y10 y11
   unfold resolve_Span.j3
   repeat' first
   | (with_reducible exact ih0 _ _ _ _ _ _ _ _)
   | (with_reducible exact ih1 _ _ _ _ _ _ _ _)
   | (with_reducible exact ih2 _ _ _ _ _ _ _)
   | (with_reducible exact ih3 _ _ _ _ _ _ _ _ _ _ _ _)
   | (with_reducible exact ih4 _ _ _ _ _ _ _ _)
   | (with_reducible exact line_Good.mono _ _ _ _)
   | (with_reducible exact resolve_far.mono _ _ _ _ _ _ _)
   | (with_reducible exact resolve_sure.mono _ _ _ _ _ _)
   | (with_reducible exact LeO.refl _)
   | (with_reducible exact LeO.none _)
   | (with_reducible refine LeO.ite ?_ ?_)
   | (with_reducible refine LeO.bind ?_ (fun _ => ?_))
  ·intro y0 y1 y2 y3 y4 y5 y6 y7
   unfold resolve_Span.l0
   repeat' first
   | (with_reducible exact ih0 _ _ _ _ _ _ _ _)
   | (with_reducible exact ih1 _ _ _ _ _ _ _ _)
   | (with_reducible exact ih2 _ _ _ _ _ _ _)
   | (with_reducible exact ih3 _ _ _ _ _ _ _ _ _ _ _ _)
   | (with_reducible exact ih4 _ _ _ _ _ _ _ _)
   | (with_reducible exact line_Good.mono _ _ _ _)
   | (with_reducible exact resolve_far.mono _ _ _ _ _ _ _)
   | (with_reducible exact resolve_sure.mono _ _ _ _ _ _)
   | (with_reducible exact LeO.refl _)
   | (with_reducible exact LeO.none _)
   | (with_reducible refine LeO.ite ?_ ?_)
   | (with_reducible refine LeO.bind ?_ (fun _ => ?_))
theorem resolve_Span.mono : ∀ a0 a1 a2 a3 a4 a5 a6 k, LeO (resolve_Span.f k a0 a1 a2 a3 a4 a5 a6) (resolve_Span.f (k + 1) a0 a1 a2 a3 a4 a5 a6) := by
 intro a0 a1 a2 a3 a4 a5 a6 k
 obtain ⟨ih0, ih1, ih2, ih3, ih4⟩ := resolve_Span.mono_l k
 unfold resolve_Span.f
 repeat' first
   | (with_reducible exact ih0 _ _ _ _ _ _ _ _)
   | (with_reducible exact ih1 _ _ _ _ _ _ _ _)
   | (with_reducible exact ih2 _ _ _ _ _ _ _)
   | (with_reducible exact ih3 _ _ _ _ _ _ _ _ _ _ _ _)
   | (with_reducible exact ih4 _ _ _ _ _ _ _ _)
   | (with_reducible exact line_Good.mono _ _ _ _)
   | (with_reducible exact resolve_far.mono _ _ _ _ _ _ _)
   | (with_reducible exact resolve_sure.mono _ _ _ _ _ _)
   | (with_reducible exact LeO.refl _)
   | (with_reducible exact LeO.none _)
   | (with_reducible refine LeO.ite ?_ ?_)
   | (with_reducible refine LeO.bind ?_ (fun _ => ?_))
set_option maxHeartbeats 8000000 in
set_option maxRecDepth 100000 in
theorem resolve_Span.calls (k : Nat) (A0 : Option Addr) (c0 : Nat) (l0 : List (List ByteArray)) (a1_0 : Int) (a1_1 : Int) (a1_2 : ByteArray) (a2_0 : Int) (a2_1 : Int) (a2_2 : ByteArray) (r1 : Bool) (r2 : Int) (r3 : Int) (r4 : Int) (r5 : Int) (w : World) (hr0 : Kd.C (Kd.slice 9 Kd.string) w A0 l0.length l0) (hc0 : l0.length ≤ c0) (h : resolve_Span.f k l0 a1_0 a1_1 a1_2 a2_0 a2_1 a2_2 = some (r1, r2, r3, r4, r5)) :
  Calls Try.prog 14 #[.slice A0 l0.length c0, .agg #[.int .i64 a1_0, .int .i64 a1_1, .string a1_2], .agg #[.int .i64 a2_0, .int .i64 a2_1, .string a2_2]] w fun e w' => e = .returned (.tuple #[.agg #[.bool r1, .int .i64 r2, .int .i64 r3, .int .i64 r4], .int .i64 r5]) ∧ Below w.heap.size w w' := by
 have hu34 := Try.underlying34
 have hu37 := Try.underlying37
 have hu53 := Try.underlying53
 have HR0 := Aside0.mk hr0
 have HC0 := Aside0.mk hc0
 clear hr0 hc0
 have HB := Aside0.mk (Below.refl w.heap.size w)
 have H : (if (l0.length : Int) = 0 then (resolve_Span.j0 k l0 true a1_0 a1_1 a1_2 a2_0 a2_1 a2_2) else (if (l0.length : Int) > 10001 then (resolve_Span.j0 k l0 true a1_0 a1_1 a1_2 a2_0 a2_1 a2_2) else ((line_Good.f k a1_0 a1_1 a1_2).bind fun t166 => (if t166 = true then ((line_Good.f k a2_0 a2_1 a2_2).bind fun t167 => (resolve_Span.j0 k l0 (!t167) a1_0 a1_1 a1_2 a2_0 a2_1 a2_2)) else (resolve_Span.j0 k l0 true a1_0 a1_1 a1_2 a2_0 a2_1 a2_2))))) = some (r1, r2, r3, r4, r5) := h
 clear h
 have HC4 := Aside0.mk H
 clear H
 go_enter Try.func14, Try.ntmps14
 go_upto_region 1 with (first | go_step3 | ((with_reducible refine gate_dst (N := 4) rfl ?_); (try (refine gate_guard (by rfl) ?_; dsimp only)); refine box_event ?hg (N := 4) ?hd (cs := #[.int .i64 a1_0, .int .i64 a1_1, .string a1_2]) (t := 34) ?hr ?_; (case hd => rfl); (case hg => rfl); (case hr => first | (go_simp; done) | (go_simp; rfl)); intro gb163 hg w5 hbox hb; have n0_ := Aside0.mk (below_step bel_ hb); have n1_ := Aside0.mk (hbox); have n2_ := Aside0.mk ((bsz_ hg : w.heap.size ≤ gb163)); have n3_ := Aside0.mk ((bsz_ hg : w.heap.size ≤ gb163)); clear HB; have HB := n0_; have BK163 := n1_; have GW163 := n2_; have GE163 := n3_; clear n0_ n1_ n2_ n3_; clear hb hbox hg) | ((with_reducible refine gate_dst (N := 5) rfl ?_); (try (refine gate_guard (by rfl) ?_; dsimp only)); refine box_event ?hg (N := 5) ?hd (cs := #[.int .i64 a2_0, .int .i64 a2_1, .string a2_2]) (t := 34) ?hr ?_; (case hd => rfl); (case hg => rfl); (case hr => first | (go_simp; done) | (go_simp; rfl)); intro gb164 hg w6 hbox hb; have n0_ := blb_ BK163 hb; have n1_ := Aside0.mk (below_step bel_ hb); have n2_ := Aside0.mk (hbox); have n3_ := Aside0.mk ((bsz_ hg : w.heap.size ≤ gb164)); have n4_ := Aside0.mk ((bsz_ hg : w.heap.size ≤ gb164)); have n5_ := Aside0.mk (bne_ BK163 hg : gb163 ≠ gb164); have n6_ := Aside0.mk (bng_ BK163 hg : gb164 ≠ gb163); clear BK163; clear HB; have BK163 := n0_; have HB := n1_; have BK164 := n2_; have GW164 := n3_; have GE164 := n4_; have NB163_164 := n5_; have NB164_163 := n6_; clear n0_ n1_ n2_ n3_ n4_ n5_ n6_; clear hb hbox hg) | ((with_reducible refine gate_dst (N := 6) rfl ?_); (try (refine gate_guard (by rfl) ?_; dsimp only)); refine box_event ?hg (N := 6) ?hd (cs := #[.bool false, .int .i64 0, .int .i64 0, .int .i64 0]) (t := 37) ?hr ?_; (case hd => rfl); (case hg => rfl); (case hr => first | (go_simp; done) | (go_simp; rfl)); intro gb165 hg w7 hbox hb; have n0_ := blb_ BK163 hb; have n1_ := blb_ BK164 hb; have n2_ := Aside0.mk (below_step bel_ hb); have n3_ := Aside0.mk (hbox); have n4_ := Aside0.mk ((bsz_ hg : w.heap.size ≤ gb165)); have n5_ := Aside0.mk ((bsz_ hg : w.heap.size ≤ gb165)); have n6_ := Aside0.mk (bne_ BK163 hg : gb163 ≠ gb165); have n7_ := Aside0.mk (bng_ BK163 hg : gb165 ≠ gb163); have n8_ := Aside0.mk (bne_ BK164 hg : gb164 ≠ gb165); have n9_ := Aside0.mk (bng_ BK164 hg : gb165 ≠ gb164); clear BK163; clear BK164; clear HB; have BK163 := n0_; have BK164 := n1_; have HB := n2_; have BK165 := n3_; have GW165 := n4_; have GE165 := n5_; have NB163_165 := n6_; have NB165_163 := n7_; have NB164_165 := n8_; have NB165_164 := n9_; clear n0_ n1_ n2_ n3_ n4_ n5_ n6_ n7_ n8_ n9_; clear hb hbox hg))
 (try simp only [Act.put, List.setIfInBounds_toArray, List.set_cons_zero, List.set_cons_succ])
 go_cut [32] (fun v32 wc => ∃ (kq : Nat) (x32_3 : Bool), v32 = .bool x32_3 ∧ Aside0 (resolve_Span.j0 kq l0 x32_3 a1_0 a1_1 a1_2 a2_0 a2_1 a2_2 = some (r1, r2, r3, r4, r5)) ∧ Aside0 (kq ≤ k) ∧ Aside0 (wc.heap[gb163]? = some (.cells #[.int .i64 a1_0, .int .i64 a1_1, .string a1_2] 34 (0, 0))) ∧ Aside0 (wc.heap[gb164]? = some (.cells #[.int .i64 a2_0, .int .i64 a2_1, .string a2_2] 34 (0, 0))) ∧ Aside0 (wc.heap[gb165]? = some (.cells #[.bool false, .int .i64 0, .int .i64 0, .int .i64 0] 37 (0, 0))) ∧ Aside0 (Below w.heap.size w wc))
 case first =>
  have H := HC4.out
  clear HC4
  by_cases c8 : (l0.length : Int) = 0
  ·rw [if_pos c8] at H
   have c8b0 : ((l0.length : Int) == 0) = true := beq_iff_eq.mpr c8
   have c8b1 : ((l0.length : Int) != 0) = false := bne_eq_false_iff_eq.mpr c8
   clear c8
   (first | rw [c8b0] | (simp only [i64_w, i32_w]; rw [c8b0]) | skip)
   have H' := Aside0.mk H
   clear H
   go_wp2_with (first | go_step3)
   go_meet
   case rel => exact ⟨_, (true), rfs_, (by first | exact H' | (subst_vars; exact H')), ⟨ole_⟩, ⟨blk_⟩, ⟨blk_⟩, ⟨blk_⟩, ⟨bel_⟩⟩
  ·rw [if_neg c8] at H
   have c8b0 : ((l0.length : Int) == 0) = false := beq_eq_false_iff_ne.mpr c8
   have c8b1 : ((l0.length : Int) != 0) = true := bne_iff_ne.mpr c8
   have c8b2 : ¬ (l0 = []) := fun h_ => c8 (by rw [h_]; rfl)
   (first | rw [c8b0] | (simp only [i64_w, i32_w]; rw [c8b0]) | skip)
   by_cases c9 : (l0.length : Int) > 10001
   ·rw [if_pos c9] at H
    have c9b0 : decide (10001 < (l0.length : Int)) = true := decide_eq_true c9
    have c9b1 : decide (10001 < l0.length) = true := decide_eq_true (by omega)
    clear c9
    have H' := Aside0.mk H
    clear H
    go_wp2_with (first | go_step3)
    go_meet
    case rel => exact ⟨_, (true), rfs_, (by first | exact H' | (subst_vars; exact H')), ⟨ole_⟩, ⟨blk_⟩, ⟨blk_⟩, ⟨blk_⟩, ⟨bel_⟩⟩
   ·rw [if_neg c9] at H
    have c9b0 : decide (10001 < (l0.length : Int)) = false := decide_eq_false c9
    have c9b1 : decide (10001 < l0.length) = false := decide_eq_false (by omega)
    clear c9
    replace H := Option.bind_eq_some_iff.mp H
    obtain ⟨t166, A100, H⟩ := H
    try dsimp only at H
    have A10 := Aside0.mk A100
    clear A100
    by_cases c11 : t166 = true
    ·subst c11
     rw [if_pos rfl] at H
     replace H := Option.bind_eq_some_iff.mp H
     obtain ⟨t167, A120, H⟩ := H
     try dsimp only at H
     have A12 := Aside0.mk A120
     clear A120
     have H' := Aside0.mk H
     clear H
     have hnb13 := NB163_164.out
     have hnc13 := NB164_163.out
     have hnb14 := NB163_165.out
     have hnc14 := NB165_163.out
     have hcz15_0 : w7.cell? ⟨gb163, 0, none⟩ = some (.int .i64 a1_0) := (blk_cell BK163.out 0).trans rfl
     have hcz15_1 : w7.cell? ⟨gb163, 1, none⟩ = some (.int .i64 a1_1) := (blk_cell BK163.out 1).trans rfl
     have hcz15_2 : w7.cell? ⟨gb163, 2, none⟩ = some (.string a1_2) := (blk_cell BK163.out 2).trans rfl
     have hfz15_0 := blk_frozen BK163.out 0
     have hfz15_1 := blk_frozen BK163.out 1
     have hfz15_2 := blk_frozen BK163.out 2
     go_wp2_with (first | go_step3 | (go_at_call 13; (with_reducible refine (line_Good.calls k a1_0 a1_1 a1_2 true _ A10.out).mono ?_); rintro e w16 ⟨rfl, hb⟩; have n0_ := blb_ BK163 hb; have n1_ := blb_ BK164 hb; have n2_ := blb_ BK165 hb; have n3_ := Aside0.mk (below_step bel_ hb); clear BK163; clear BK164; clear BK165; clear HB; have BK163 := n0_; have BK164 := n1_; have BK165 := n2_; have HB := n3_; clear n0_ n1_ n2_ n3_; clear hb; have hnb17 := NB164_165.out; have hnc17 := NB165_164.out; have hcz18_0 : w16.cell? ⟨gb164, 0, none⟩ = some (.int .i64 a2_0) := (blk_cell BK164.out 0).trans rfl; have hcz18_1 : w16.cell? ⟨gb164, 1, none⟩ = some (.int .i64 a2_1) := (blk_cell BK164.out 1).trans rfl; have hcz18_2 : w16.cell? ⟨gb164, 2, none⟩ = some (.string a2_2) := (blk_cell BK164.out 2).trans rfl; have hfz18_0 := blk_frozen BK164.out 0; have hfz18_1 := blk_frozen BK164.out 1; have hfz18_2 := blk_frozen BK164.out 2) | (go_at_call 13; (with_reducible refine (line_Good.calls k a2_0 a2_1 a2_2 t167 _ A12.out).mono ?_); rintro e w19 ⟨rfl, hb⟩; have n0_ := blb_ BK163 hb; have n1_ := blb_ BK164 hb; have n2_ := blb_ BK165 hb; have n3_ := Aside0.mk (below_step bel_ hb); clear BK163; clear BK164; clear BK165; clear HB; have BK163 := n0_; have BK164 := n1_; have BK165 := n2_; have HB := n3_; clear n0_ n1_ n2_ n3_; clear hb))
     go_meet
     case rel => exact ⟨_, (!t167), rfs_, (by first | exact H' | (subst_vars; exact H')), ⟨ole_⟩, ⟨blk_⟩, ⟨blk_⟩, ⟨blk_⟩, ⟨bel_⟩⟩
    ·replace c11 := Bool.eq_false_iff.mpr c11
     subst c11
     rw [if_neg (show ¬ (false = true) by decide)] at H
     have H' := Aside0.mk H
     clear H
     have hnb20 := NB163_164.out
     have hnc20 := NB164_163.out
     have hnb21 := NB163_165.out
     have hnc21 := NB165_163.out
     have hcz22_0 : w7.cell? ⟨gb163, 0, none⟩ = some (.int .i64 a1_0) := (blk_cell BK163.out 0).trans rfl
     have hcz22_1 : w7.cell? ⟨gb163, 1, none⟩ = some (.int .i64 a1_1) := (blk_cell BK163.out 1).trans rfl
     have hcz22_2 : w7.cell? ⟨gb163, 2, none⟩ = some (.string a1_2) := (blk_cell BK163.out 2).trans rfl
     have hfz22_0 := blk_frozen BK163.out 0
     have hfz22_1 := blk_frozen BK163.out 1
     have hfz22_2 := blk_frozen BK163.out 2
     go_wp2_with (first | go_step3 | (go_at_call 13; (with_reducible refine (line_Good.calls k a1_0 a1_1 a1_2 false _ A10.out).mono ?_); rintro e w23 ⟨rfl, hb⟩; have n0_ := blb_ BK163 hb; have n1_ := blb_ BK164 hb; have n2_ := blb_ BK165 hb; have n3_ := Aside0.mk (below_step bel_ hb); clear BK163; clear BK164; clear BK165; clear HB; have BK163 := n0_; have BK164 := n1_; have BK165 := n2_; have HB := n3_; clear n0_ n1_ n2_ n3_; clear hb))
     go_meet
     case rel => exact ⟨_, (true), rfs_, (by first | exact H' | (subst_vars; exact H')), ⟨ole_⟩, ⟨blk_⟩, ⟨blk_⟩, ⟨blk_⟩, ⟨bel_⟩⟩
 case rest =>
  clear HC4
  try clear c1
  try clear c2
  try clear p2
  try clear c8
  try clear c8b0
  try clear c8b1
  try clear c8b2
  try clear c9
  try clear c9b0
  try clear c9b1
  try clear c11
  try clear c13
  try clear c14
  try clear c17
  try clear c20
  try clear c21
  try clear hcz15_0
  try clear hcz15_1
  try clear hcz15_2
  try clear hcz18_0
  try clear hcz18_1
  try clear hcz18_2
  try clear hcz22_0
  try clear hcz22_1
  try clear hcz22_2
  try clear hfz15_0
  try clear hfz15_1
  try clear hfz15_2
  try clear hfz18_0
  try clear hfz18_1
  try clear hfz18_2
  try clear hfz22_0
  try clear hfz22_1
  try clear hfz22_2
  obtain ⟨kq, x32_3, rfl, HA, HJ3, BK163, BK164, BK165, HB⟩ := hcut
  cases kq with
  | zero => exact absurd HA.out (by simp [resolve_Span.j0])
  | succ kj3 =>
   have H := HA.out
   clear HA
   simp only [resolve_Span.j0] at H
   by_cases c24 : x32_3 = true
   ·subst c24
    rw [if_pos rfl] at H
    simp only [Option.some.injEq, Prod.mk.injEq] at H
    obtain ⟨rfl, rfl, rfl, rfl, rfl⟩ := H
    have hnb25 := NB165_163.out
    have hnc25 := NB163_165.out
    have hnb26 := NB165_164.out
    have hnc26 := NB164_165.out
    have hcz27_0 : wc.cell? ⟨gb165, 0, none⟩ = some (.bool false) := (blk_cell BK165.out 0).trans rfl
    have hcz27_1 : wc.cell? ⟨gb165, 1, none⟩ = some (.int .i64 0) := (blk_cell BK165.out 1).trans rfl
    have hcz27_2 : wc.cell? ⟨gb165, 2, none⟩ = some (.int .i64 0) := (blk_cell BK165.out 2).trans rfl
    have hcz27_3 : wc.cell? ⟨gb165, 3, none⟩ = some (.int .i64 0) := (blk_cell BK165.out 3).trans rfl
    have hfz27_0 := blk_frozen BK165.out 0
    have hfz27_1 := blk_frozen BK165.out 1
    have hfz27_2 := blk_frozen BK165.out 2
    have hfz27_3 := blk_frozen BK165.out 3
    go_wp2_with (first | go_step3)
    (try (rw [Exit.noGoto_ret]; try dsimp only [Exit.inBlock, Exit.then]))
    refine bodyPost_ret (results_ct rfl _ _ gb165 37 #[.bool false, .int .i64 0, .int .i64 0, .int .i64 0] (0, 0) _ rfl (by (with_reducible repeat (first | refine blk_drewN ?_ _ | refine blk_drew ?_ | refine blk_alloc ?_ _)); refine blk_put (cs := #[.bool false, .int .i64 0, .int .i64 0, .int .i64 0]) ?_ 3 _ rfl; (with_reducible repeat (first | refine blk_drewN ?_ _ | refine blk_drew ?_ | refine blk_alloc ?_ _)); refine blk_put (cs := #[.bool false, .int .i64 0, .int .i64 0, .int .i64 0]) ?_ 2 _ rfl; (with_reducible repeat (first | refine blk_drewN ?_ _ | refine blk_drew ?_ | refine blk_alloc ?_ _)); refine blk_put (cs := #[.bool false, .int .i64 0, .int .i64 0, .int .i64 0]) ?_ 1 _ rfl; (with_reducible repeat (first | refine blk_drewN ?_ _ | refine blk_drew ?_ | refine blk_alloc ?_ _)); refine blk_put (cs := #[.bool false, .int .i64 0, .int .i64 0, .int .i64 0]) ?_ 0 _ rfl; (with_reducible repeat (first | refine blk_drewN ?_ _ | refine blk_drew ?_ | refine blk_alloc ?_ _)); exact BK165.out) Try.underlying37 rfl (by kernel_rfl)) rfl ?_
    exact ⟨rsl_, bel_⟩
   ·replace c24 := Bool.eq_false_iff.mpr c24
    subst c24
    rw [if_neg (show ¬ (false = true) by decide)] at H
    have HC28 := Aside0.mk H
    clear H
    go_upto_region 3 with (first | go_step3 | go_step3)
    go_cut [41] (fun v41 wc => ∃ (kq : Nat) (x41_27 : Bool), v41 = .bool x41_27 ∧ Aside0 (resolve_Span.j1 kq l0 x41_27 a1_0 a1_1 a1_2 a2_0 a2_1 a2_2 = some (r1, r2, r3, r4, r5)) ∧ Aside0 (kq ≤ kj3) ∧ Aside0 (wc.heap[gb163]? = some (.cells #[.int .i64 a1_0, .int .i64 a1_1, .string a1_2] 34 (0, 0))) ∧ Aside0 (wc.heap[gb164]? = some (.cells #[.int .i64 a2_0, .int .i64 a2_1, .string a2_2] 34 (0, 0))) ∧ Aside0 (wc.heap[gb165]? = some (.cells #[.bool false, .int .i64 0, .int .i64 0, .int .i64 0] 37 (0, 0))) ∧ Aside0 (Below w.heap.size w wc))
    case first =>
     have H := HC28.out
     clear HC28
     by_cases c29 : a1_0 = 4
     ·rw [if_pos c29] at H
      have c29b0 : (a1_0 == 4) = true := beq_iff_eq.mpr c29
      have c29b1 : (a1_0 != 4) = false := bne_eq_false_iff_eq.mpr c29
      clear c29
      (first | rw [c29b0] | (simp only [i64_w, i32_w]; rw [c29b0]) | skip)
      have H' := Aside0.mk H
      clear H
      have hnb30 := NB163_164.out
      have hnc30 := NB164_163.out
      have hnb31 := NB163_165.out
      have hnc31 := NB165_163.out
      have hcz32_0 : wc.cell? ⟨gb163, 0, none⟩ = some (.int .i64 a1_0) := (blk_cell BK163.out 0).trans rfl
      have hcz32_1 : wc.cell? ⟨gb163, 1, none⟩ = some (.int .i64 a1_1) := (blk_cell BK163.out 1).trans rfl
      have hcz32_2 : wc.cell? ⟨gb163, 2, none⟩ = some (.string a1_2) := (blk_cell BK163.out 2).trans rfl
      have hfz32_0 := blk_frozen BK163.out 0
      have hfz32_1 := blk_frozen BK163.out 1
      have hfz32_2 := blk_frozen BK163.out 2
      have hnb33 := NB164_165.out
      have hnc33 := NB165_164.out
      have hcz34_0 : wc.cell? ⟨gb164, 0, none⟩ = some (.int .i64 a2_0) := (blk_cell BK164.out 0).trans rfl
      have hcz34_1 : wc.cell? ⟨gb164, 1, none⟩ = some (.int .i64 a2_1) := (blk_cell BK164.out 1).trans rfl
      have hcz34_2 : wc.cell? ⟨gb164, 2, none⟩ = some (.string a2_2) := (blk_cell BK164.out 2).trans rfl
      have hfz34_0 := blk_frozen BK164.out 0
      have hfz34_1 := blk_frozen BK164.out 1
      have hfz34_2 := blk_frozen BK164.out 2
      go_wp2_with (first | go_step3)
      go_meet
      case rel => exact ⟨_, ((a2_0 == 4)), rfs_, H', ⟨by have := HJ3.out; first | omega | exact Nat.le_refl _⟩, ⟨blk_⟩, ⟨blk_⟩, ⟨blk_⟩, ⟨bel_⟩⟩
     ·rw [if_neg c29] at H
      have c29b0 : (a1_0 == 4) = false := beq_eq_false_iff_ne.mpr c29
      have c29b1 : (a1_0 != 4) = true := bne_iff_ne.mpr c29
      (first | rw [c29b0] | (simp only [i64_w, i32_w]; rw [c29b0]) | skip)
      have H' := Aside0.mk H
      clear H
      have hnb35 := NB163_164.out
      have hnc35 := NB164_163.out
      have hnb36 := NB163_165.out
      have hnc36 := NB165_163.out
      have hcz37_0 : wc.cell? ⟨gb163, 0, none⟩ = some (.int .i64 a1_0) := (blk_cell BK163.out 0).trans rfl
      have hcz37_1 : wc.cell? ⟨gb163, 1, none⟩ = some (.int .i64 a1_1) := (blk_cell BK163.out 1).trans rfl
      have hcz37_2 : wc.cell? ⟨gb163, 2, none⟩ = some (.string a1_2) := (blk_cell BK163.out 2).trans rfl
      have hfz37_0 := blk_frozen BK163.out 0
      have hfz37_1 := blk_frozen BK163.out 1
      have hfz37_2 := blk_frozen BK163.out 2
      go_wp2_with (first | go_step3)
      go_meet
      case rel => exact ⟨_, (false), rfs_, H', ⟨by have := HJ3.out; first | omega | exact Nat.le_refl _⟩, ⟨blk_⟩, ⟨blk_⟩, ⟨blk_⟩, ⟨bel_⟩⟩
    case rest =>
     clear HC28
     try clear c1
     try clear c2
     try clear p2
     try clear c3
     try clear c8
     try clear c8b0
     try clear c8b1
     try clear c8b2
     try clear c9
     try clear c9b0
     try clear c9b1
     try clear c11
     try clear c13
     try clear c14
     try clear c17
     try clear c20
     try clear c21
     try clear c24
     try clear c25
     try clear c26
     try clear c29
     try clear c29b0
     try clear c29b1
     try clear c30
     try clear c31
     try clear c33
     try clear c35
     try clear c36
     try clear hcz15_0
     try clear hcz15_1
     try clear hcz15_2
     try clear hcz18_0
     try clear hcz18_1
     try clear hcz18_2
     try clear hcz22_0
     try clear hcz22_1
     try clear hcz22_2
     try clear hcz27_0
     try clear hcz27_1
     try clear hcz27_2
     try clear hcz27_3
     try clear hcz32_0
     try clear hcz32_1
     try clear hcz32_2
     try clear hcz34_0
     try clear hcz34_1
     try clear hcz34_2
     try clear hcz37_0
     try clear hcz37_1
     try clear hcz37_2
     try clear hfz15_0
     try clear hfz15_1
     try clear hfz15_2
     try clear hfz18_0
     try clear hfz18_1
     try clear hfz18_2
     try clear hfz22_0
     try clear hfz22_1
     try clear hfz22_2
     try clear hfz27_0
     try clear hfz27_1
     try clear hfz27_2
     try clear hfz27_3
     try clear hfz32_0
     try clear hfz32_1
     try clear hfz32_2
     try clear hfz34_0
     try clear hfz34_1
     try clear hfz34_2
     try clear hfz37_0
     try clear hfz37_1
     try clear hfz37_2
     try clear p2
     obtain ⟨kq, x41_27, rfl, HA, HJ27, BK163, BK164, BK165, HB⟩ := hcut
     cases kq with
     | zero => exact absurd HA.out (by simp [resolve_Span.j1])
     | succ kj27 =>
      have H := HA.out
      clear HA
      simp only [resolve_Span.j1] at H
      have HC38 := Aside0.mk H
      clear H
      go_upto_if 41 with (fail)
      go_cut [] (fun wc => ∃ (kq : Nat) (x165000_37 : Int) (x165001_37 : Int) (x165002_37 : ByteArray), Aside0 (resolve_Span.j2 kq l0 a1_0 a1_1 a1_2 x165000_37 x165001_37 x165002_37 = some (r1, r2, r3, r4, r5)) ∧ Aside0 (kq ≤ kj27) ∧ Aside0 (wc.heap[gb163]? = some (.cells #[.int .i64 a1_0, .int .i64 a1_1, .string a1_2] 34 (0, 0))) ∧ Aside0 (wc.heap[gb164]? = some (.cells #[.int .i64 x165000_37, .int .i64 x165001_37, .string x165002_37] 34 (0, 0))) ∧ Aside0 (wc.heap[gb165]? = some (.cells #[.bool false, .int .i64 0, .int .i64 0, .int .i64 0] 37 (0, 0))) ∧ Aside0 (Below w.heap.size w wc))
      case first =>
       have H := HC38.out
       clear HC38
       by_cases c39 : x41_27 = true
       ·subst c39
        rw [if_pos rfl] at H
        have H' := Aside0.mk H
        clear H
        have hnb40 := NB164_163.out
        have hnc40 := NB163_164.out
        have hnb41 := NB164_165.out
        have hnc41 := NB165_164.out
        have hcz42_0 : wc.cell? ⟨gb164, 0, none⟩ = some (.int .i64 a2_0) := (blk_cell BK164.out 0).trans rfl
        have hcz42_1 : wc.cell? ⟨gb164, 1, none⟩ = some (.int .i64 a2_1) := (blk_cell BK164.out 1).trans rfl
        have hcz42_2 : wc.cell? ⟨gb164, 2, none⟩ = some (.string a2_2) := (blk_cell BK164.out 2).trans rfl
        have hfz42_0 := blk_frozen BK164.out 0
        have hfz42_1 := blk_frozen BK164.out 1
        have hfz42_2 := blk_frozen BK164.out 2
        go_wp2_with (first | go_step3)
        go_meet
        case rel => exact ⟨_, (1), (0), ((⟨#[]⟩ : ByteArray)), H', ⟨by have := HJ3.out; have := HJ27.out; first | omega | exact Nat.le_refl _⟩, ⟨by (with_reducible repeat (first | refine blk_drewN ?_ _ | refine blk_drew ?_ | refine blk_alloc ?_ _)); refine blk_far ?_ NB163_164.out _; (with_reducible repeat (first | refine blk_drewN ?_ _ | refine blk_drew ?_ | refine blk_alloc ?_ _)); refine blk_far ?_ NB163_164.out _; (with_reducible repeat (first | refine blk_drewN ?_ _ | refine blk_drew ?_ | refine blk_alloc ?_ _)); refine blk_far ?_ NB163_164.out _; (with_reducible repeat (first | refine blk_drewN ?_ _ | refine blk_drew ?_ | refine blk_alloc ?_ _)); exact BK163.out⟩, ⟨by (with_reducible repeat (first | refine blk_drewN ?_ _ | refine blk_drew ?_ | refine blk_alloc ?_ _)); refine blk_put (cs := #[.int .i64 1, .int .i64 0, .string a2_2]) ?_ 2 _ rfl; (with_reducible repeat (first | refine blk_drewN ?_ _ | refine blk_drew ?_ | refine blk_alloc ?_ _)); refine blk_put (cs := #[.int .i64 1, .int .i64 a2_1, .string a2_2]) ?_ 1 _ rfl; (with_reducible repeat (first | refine blk_drewN ?_ _ | refine blk_drew ?_ | refine blk_alloc ?_ _)); refine blk_put (cs := #[.int .i64 a2_0, .int .i64 a2_1, .string a2_2]) ?_ 0 _ rfl; (with_reducible repeat (first | refine blk_drewN ?_ _ | refine blk_drew ?_ | refine blk_alloc ?_ _)); exact BK164.out⟩, ⟨by (with_reducible repeat (first | refine blk_drewN ?_ _ | refine blk_drew ?_ | refine blk_alloc ?_ _)); refine blk_far ?_ NB165_164.out _; (with_reducible repeat (first | refine blk_drewN ?_ _ | refine blk_drew ?_ | refine blk_alloc ?_ _)); refine blk_far ?_ NB165_164.out _; (with_reducible repeat (first | refine blk_drewN ?_ _ | refine blk_drew ?_ | refine blk_alloc ?_ _)); refine blk_far ?_ NB165_164.out _; (with_reducible repeat (first | refine blk_drewN ?_ _ | refine blk_drew ?_ | refine blk_alloc ?_ _)); exact BK165.out⟩, ⟨bel_⟩⟩
       ·replace c39 := Bool.eq_false_iff.mpr c39
        subst c39
        rw [if_neg (show ¬ (false = true) by decide)] at H
        have H' := Aside0.mk H
        clear H
        go_wp2_with (first | go_step3)
        go_meet
        case rel => exact ⟨_, (a2_0), (a2_1), (a2_2), H', ⟨by have := HJ3.out; have := HJ27.out; first | omega | exact Nat.le_refl _⟩, ⟨blk_⟩, ⟨blk_⟩, ⟨blk_⟩, ⟨bel_⟩⟩
      case rest =>
       clear HC38
       try clear c1
       try clear c2
       try clear p2
       try clear c3
       try clear c4
       try clear c8
       try clear c8b0
       try clear c8b1
       try clear c8b2
       try clear c9
       try clear c9b0
       try clear c9b1
       try clear c11
       try clear c13
       try clear c14
       try clear c17
       try clear c20
       try clear c21
       try clear c24
       try clear c25
       try clear c26
       try clear c29
       try clear c29b0
       try clear c29b1
       try clear c30
       try clear c31
       try clear c33
       try clear c35
       try clear c36
       try clear c39
       try clear c40
       try clear c41
       try clear hcz15_0
       try clear hcz15_1
       try clear hcz15_2
       try clear hcz18_0
       try clear hcz18_1
       try clear hcz18_2
       try clear hcz22_0
       try clear hcz22_1
       try clear hcz22_2
       try clear hcz27_0
       try clear hcz27_1
       try clear hcz27_2
       try clear hcz27_3
       try clear hcz32_0
       try clear hcz32_1
       try clear hcz32_2
       try clear hcz34_0
       try clear hcz34_1
       try clear hcz34_2
       try clear hcz37_0
       try clear hcz37_1
       try clear hcz37_2
       try clear hcz42_0
       try clear hcz42_1
       try clear hcz42_2
       try clear hfz15_0
       try clear hfz15_1
       try clear hfz15_2
       try clear hfz18_0
       try clear hfz18_1
       try clear hfz18_2
       try clear hfz22_0
       try clear hfz22_1
       try clear hfz22_2
       try clear hfz27_0
       try clear hfz27_1
       try clear hfz27_2
       try clear hfz27_3
       try clear hfz32_0
       try clear hfz32_1
       try clear hfz32_2
       try clear hfz34_0
       try clear hfz34_1
       try clear hfz34_2
       try clear hfz37_0
       try clear hfz37_1
       try clear hfz37_2
       try clear hfz42_0
       try clear hfz42_1
       try clear hfz42_2
       try clear p2
       obtain ⟨kq, x165000_37, x165001_37, x165002_37, HA, HJ37, BK163, BK164, BK165, HB⟩ := hcut
       cases kq with
       | zero => exact absurd HA.out (by simp [resolve_Span.j2])
       | succ kj37 =>
        have H := HA.out
        clear HA
        simp only [resolve_Span.j2] at H
        replace H := Option.bind_eq_some_iff.mp H
        obtain ⟨⟨t168, t169⟩, A430, H⟩ := H
        try dsimp only at H
        have A43 := Aside0.mk A430
        clear A430
        replace H := Option.bind_eq_some_iff.mp H
        obtain ⟨⟨t170, t171⟩, A440, H⟩ := H
        try dsimp only at H
        have A44 := Aside0.mk A440
        clear A440
        have HC45 := Aside0.mk H
        clear H
        have hnb46 := NB163_164.out
        have hnc46 := NB164_163.out
        have hnb47 := NB163_165.out
        have hnc47 := NB165_163.out
        have hcz48_0 : wc.cell? ⟨gb163, 0, none⟩ = some (.int .i64 a1_0) := (blk_cell BK163.out 0).trans rfl
        have hcz48_1 : wc.cell? ⟨gb163, 1, none⟩ = some (.int .i64 a1_1) := (blk_cell BK163.out 1).trans rfl
        have hcz48_2 : wc.cell? ⟨gb163, 2, none⟩ = some (.string a1_2) := (blk_cell BK163.out 2).trans rfl
        have hfz48_0 := blk_frozen BK163.out 0
        have hfz48_1 := blk_frozen BK163.out 1
        have hfz48_2 := blk_frozen BK163.out 2
        go_upto_region 7 with (first | go_step3 | ((with_reducible refine gate_callee (f := 23) rfl ?_); refine goesL_ (some 46) rfl rfl Try.func23 (by kernel_rfl) rfl #[.slice A0 l0.length c0, .agg #[.int .i64 a1_0, .int .i64 a1_1, .string a1_2], .bool false] rfl goa_ ?_; (with_reducible refine (resolve_sure.calls kj37 _ _ l0 a1_0 a1_1 a1_2 false t168 t169 _ ?side1 ?side2 A43.out).mono ?_); (case side1 => repeat (first | exact (Kd.C_below HR0.out HB.out) | (with_reducible refine Kd.C_alloc ?_ _) | (with_reducible refine Kd.C_drewN ?_ _) | (with_reducible refine Kd.C_drew ?_))); (case side2 => exact HC0.out); rintro e w49 ⟨rfl, hb⟩; refine ⟨_, rfl, ?_⟩; have n0_ := blb_ BK163 hb; have n1_ := blb_ BK164 hb; have n2_ := blb_ BK165 hb; have n3_ := Aside0.mk (below_step bel_ hb); clear BK163; clear BK164; clear BK165; clear HB; have BK163 := n0_; have BK164 := n1_; have BK165 := n2_; have HB := n3_; clear n0_ n1_ n2_ n3_; clear hb; have hnb50 := NB164_165.out; have hnc50 := NB165_164.out; have hcz51_0 : w49.cell? ⟨gb164, 0, none⟩ = some (.int .i64 x165000_37) := (blk_cell BK164.out 0).trans rfl; have hcz51_1 : w49.cell? ⟨gb164, 1, none⟩ = some (.int .i64 x165001_37) := (blk_cell BK164.out 1).trans rfl; have hcz51_2 : w49.cell? ⟨gb164, 2, none⟩ = some (.string x165002_37) := (blk_cell BK164.out 2).trans rfl; have hfz51_0 := blk_frozen BK164.out 0; have hfz51_1 := blk_frozen BK164.out 1; have hfz51_2 := blk_frozen BK164.out 2) | ((with_reducible refine gate_callee (f := 23) rfl ?_); refine goesL_ (some 52) rfl rfl Try.func23 (by kernel_rfl) rfl #[.slice A0 l0.length c0, .agg #[.int .i64 x165000_37, .int .i64 x165001_37, .string x165002_37], .bool true] rfl goa_ ?_; (with_reducible refine (resolve_sure.calls kj37 _ _ l0 x165000_37 x165001_37 x165002_37 true t170 t171 _ ?side1 ?side2 A44.out).mono ?_); (case side1 => repeat (first | exact (Kd.C_below HR0.out HB.out) | (with_reducible refine Kd.C_alloc ?_ _) | (with_reducible refine Kd.C_drewN ?_ _) | (with_reducible refine Kd.C_drew ?_))); (case side2 => exact HC0.out); rintro e w52 ⟨rfl, hb⟩; refine ⟨_, rfl, ?_⟩; have n0_ := blb_ BK163 hb; have n1_ := blb_ BK164 hb; have n2_ := blb_ BK165 hb; have n3_ := Aside0.mk (below_step bel_ hb); clear BK163; clear BK164; clear BK165; clear HB; have BK163 := n0_; have BK164 := n1_; have BK165 := n2_; have HB := n3_; clear n0_ n1_ n2_ n3_; clear hb))
        (try simp only [Act.put, List.setIfInBounds_toArray, List.set_cons_zero, List.set_cons_succ])
        go_cut [55] (fun v55 wc => ∃ (kq : Nat) (x55_44 : Bool), v55 = .bool x55_44 ∧ Aside0 (resolve_Span.j3 kq l0 t168 t169 t170 t171 x55_44 a1_0 a1_1 a1_2 x165000_37 x165001_37 x165002_37 = some (r1, r2, r3, r4, r5)) ∧ Aside0 (kq ≤ kj37) ∧ Aside0 (wc.heap[gb163]? = some (.cells #[.int .i64 a1_0, .int .i64 a1_1, .string a1_2] 34 (0, 0))) ∧ Aside0 (wc.heap[gb164]? = some (.cells #[.int .i64 x165000_37, .int .i64 x165001_37, .string x165002_37] 34 (0, 0))) ∧ Aside0 (wc.heap[gb165]? = some (.cells #[.bool false, .int .i64 0, .int .i64 0, .int .i64 0] 37 (0, 0))) ∧ Aside0 (Below w.heap.size w wc))
        case first =>
         have H := HC45.out
         clear HC45
         by_cases c53 : t169 = true
         ·subst c53
          rw [if_pos rfl] at H
          have H' := Aside0.mk H
          clear H
          go_wp2_with (first | go_step3)
          go_meet
          case rel => exact ⟨_, (false), rfs_, H', ⟨by have := HJ3.out; have := HJ27.out; have := HJ37.out; first | omega | exact Nat.le_refl _⟩, ⟨blk_⟩, ⟨blk_⟩, ⟨blk_⟩, ⟨bel_⟩⟩
         ·replace c53 := Bool.eq_false_iff.mpr c53
          subst c53
          rw [if_neg (show ¬ (false = true) by decide)] at H
          have H' := Aside0.mk H
          clear H
          go_wp2_with (first | go_step3)
          go_meet
          case rel => exact ⟨_, (!t171), rfs_, H', ⟨by have := HJ3.out; have := HJ27.out; have := HJ37.out; first | omega | exact Nat.le_refl _⟩, ⟨blk_⟩, ⟨blk_⟩, ⟨blk_⟩, ⟨bel_⟩⟩
        case rest =>
         clear HC45
         try clear c1
         try clear c2
         try clear p2
         try clear c3
         try clear c4
         try clear c5
         try clear c8
         try clear c8b0
         try clear c8b1
         try clear c8b2
         try clear c9
         try clear c9b0
         try clear c9b1
         try clear c11
         try clear c13
         try clear c14
         try clear c17
         try clear c20
         try clear c21
         try clear c23
         try clear c24
         try clear c25
         try clear c26
         try clear c29
         try clear c29b0
         try clear c29b1
         try clear c30
         try clear c31
         try clear c33
         try clear c35
         try clear c36
         try clear c39
         try clear c40
         try clear c41
         try clear c46
         try clear c47
         try clear c50
         try clear c53
         try clear hcz15_0
         try clear hcz15_1
         try clear hcz15_2
         try clear hcz18_0
         try clear hcz18_1
         try clear hcz18_2
         try clear hcz22_0
         try clear hcz22_1
         try clear hcz22_2
         try clear hcz27_0
         try clear hcz27_1
         try clear hcz27_2
         try clear hcz27_3
         try clear hcz32_0
         try clear hcz32_1
         try clear hcz32_2
         try clear hcz34_0
         try clear hcz34_1
         try clear hcz34_2
         try clear hcz37_0
         try clear hcz37_1
         try clear hcz37_2
         try clear hcz42_0
         try clear hcz42_1
         try clear hcz42_2
         try clear hcz48_0
         try clear hcz48_1
         try clear hcz48_2
         try clear hcz51_0
         try clear hcz51_1
         try clear hcz51_2
         try clear hfz15_0
         try clear hfz15_1
         try clear hfz15_2
         try clear hfz18_0
         try clear hfz18_1
         try clear hfz18_2
         try clear hfz22_0
         try clear hfz22_1
         try clear hfz22_2
         try clear hfz27_0
         try clear hfz27_1
         try clear hfz27_2
         try clear hfz27_3
         try clear hfz32_0
         try clear hfz32_1
         try clear hfz32_2
         try clear hfz34_0
         try clear hfz34_1
         try clear hfz34_2
         try clear hfz37_0
         try clear hfz37_1
         try clear hfz37_2
         try clear hfz42_0
         try clear hfz42_1
         try clear hfz42_2
         try clear hfz48_0
         try clear hfz48_1
         try clear hfz48_2
         try clear hfz51_0
         try clear hfz51_1
         try clear hfz51_2
         try clear p2
         obtain ⟨kq, x55_44, rfl, HA, HJ44, BK163, BK164, BK165, HB⟩ := hcut
         cases kq with
         | zero => exact absurd HA.out (by simp [resolve_Span.j3])
         | succ kj44 =>
          have H := HA.out
          clear HA
          simp only [resolve_Span.j3] at H
          by_cases c54 : x55_44 = true
          ·subst c54
           rw [if_pos rfl] at H
           have H' := Aside0.mk H
           clear H
           have hnb55 := NB163_164.out
           have hnc55 := NB164_163.out
           have hnb56 := NB163_165.out
           have hnc56 := NB165_163.out
           have hcz57_0 : wc.cell? ⟨gb163, 0, none⟩ = some (.int .i64 a1_0) := (blk_cell BK163.out 0).trans rfl
           have hcz57_1 : wc.cell? ⟨gb163, 1, none⟩ = some (.int .i64 a1_1) := (blk_cell BK163.out 1).trans rfl
           have hcz57_2 : wc.cell? ⟨gb163, 2, none⟩ = some (.string a1_2) := (blk_cell BK163.out 2).trans rfl
           have hfz57_0 := blk_frozen BK163.out 0
           have hfz57_1 := blk_frozen BK163.out 1
           have hfz57_2 := blk_frozen BK163.out 2
           have hnb58 := NB164_165.out
           have hnc58 := NB165_164.out
           have hcz59_0 : wc.cell? ⟨gb164, 0, none⟩ = some (.int .i64 x165000_37) := (blk_cell BK164.out 0).trans rfl
           have hcz59_1 : wc.cell? ⟨gb164, 1, none⟩ = some (.int .i64 x165001_37) := (blk_cell BK164.out 1).trans rfl
           have hcz59_2 : wc.cell? ⟨gb164, 2, none⟩ = some (.string x165002_37) := (blk_cell BK164.out 2).trans rfl
           have hfz59_0 := blk_frozen BK164.out 0
           have hfz59_1 := blk_frozen BK164.out 1
           have hfz59_2 := blk_frozen BK164.out 2
           go_wp2_with (first | go_step3)
           go_loopg [12, 65] kj44 (fun kq v12 v65 w' => ∃ (x12_5 : Int) (x65_5 : Int), v12 = .int .i64 x12_5 ∧ v65 = .int .i64 x65_5 ∧ Aside0 (resolve_Span.l0 kq x12_5 x65_5 a1_0 a1_1 a1_2 x165000_37 x165001_37 x165002_37 = some (r1, r2, r3, r4, r5)) ∧ Aside0 (kq ≤ kj44) ∧ Aside0 (w'.heap[gb163]? = some (.cells #[.int .i64 a1_0, .int .i64 a1_1, .string a1_2] 34 (0, 0))) ∧ Aside0 (w'.heap[gb164]? = some (.cells #[.int .i64 x165000_37, .int .i64 x165001_37, .string x165002_37] 34 (0, 0))) ∧ Aside0 (w'.heap[gb165]? = some (.cells #[.bool false, .int .i64 0, .int .i64 0, .int .i64 0] 37 (0, 0))) ∧ Aside0 (Below w.heap.size w w'))
           case atStart => exact ⟨(1), (0), rfs_, rfs_, H', ⟨Nat.le_refl _⟩, ⟨blk_⟩, ⟨blk_⟩, ⟨blk_⟩, ⟨bel_⟩⟩
           case round =>
            clear H'
            try clear c1
            try clear c2
            try clear p2
            try clear c3
            try clear c4
            try clear c5
            try clear c8
            try clear c8b0
            try clear c8b1
            try clear c8b2
            try clear c9
            try clear c9b0
            try clear c9b1
            try clear c11
            try clear c13
            try clear c14
            try clear c17
            try clear c20
            try clear c21
            try clear c23
            try clear c24
            try clear c25
            try clear c26
            try clear c29
            try clear c29b0
            try clear c29b1
            try clear c30
            try clear c31
            try clear c33
            try clear c35
            try clear c36
            try clear c39
            try clear c40
            try clear c41
            try clear c46
            try clear c47
            try clear c50
            try clear c53
            try clear c54
            try clear c55
            try clear c56
            try clear c58
            try clear hcz15_0
            try clear hcz15_1
            try clear hcz15_2
            try clear hcz18_0
            try clear hcz18_1
            try clear hcz18_2
            try clear hcz22_0
            try clear hcz22_1
            try clear hcz22_2
            try clear hcz27_0
            try clear hcz27_1
            try clear hcz27_2
            try clear hcz27_3
            try clear hcz32_0
            try clear hcz32_1
            try clear hcz32_2
            try clear hcz34_0
            try clear hcz34_1
            try clear hcz34_2
            try clear hcz37_0
            try clear hcz37_1
            try clear hcz37_2
            try clear hcz42_0
            try clear hcz42_1
            try clear hcz42_2
            try clear hcz48_0
            try clear hcz48_1
            try clear hcz48_2
            try clear hcz51_0
            try clear hcz51_1
            try clear hcz51_2
            try clear hcz57_0
            try clear hcz57_1
            try clear hcz57_2
            try clear hcz59_0
            try clear hcz59_1
            try clear hcz59_2
            try clear hfz15_0
            try clear hfz15_1
            try clear hfz15_2
            try clear hfz18_0
            try clear hfz18_1
            try clear hfz18_2
            try clear hfz22_0
            try clear hfz22_1
            try clear hfz22_2
            try clear hfz27_0
            try clear hfz27_1
            try clear hfz27_2
            try clear hfz27_3
            try clear hfz32_0
            try clear hfz32_1
            try clear hfz32_2
            try clear hfz34_0
            try clear hfz34_1
            try clear hfz34_2
            try clear hfz37_0
            try clear hfz37_1
            try clear hfz37_2
            try clear hfz42_0
            try clear hfz42_1
            try clear hfz42_2
            try clear hfz48_0
            try clear hfz48_1
            try clear hfz48_2
            try clear hfz51_0
            try clear hfz51_1
            try clear hfz51_2
            try clear hfz57_0
            try clear hfz57_1
            try clear hfz57_2
            try clear hfz59_0
            try clear hfz59_1
            try clear hfz59_2
            try clear p2
            obtain ⟨x12_5, x65_5, rfl, rfl, HA, HK5, BK163, BK164, BK165, HB⟩ := hrel
            cases gk with
            | zero => exact absurd HA.out (by simp [resolve_Span.l0])
            | succ k5 =>
             have H := HA.out
             clear HA
             simp only [resolve_Span.l0] at H
             by_cases c60 : x65_5 < 2
             ·rw [if_pos c60] at H
              have c60b0 : decide (x65_5 < 2) = true := decide_eq_true c60
              clear c60
              by_cases c61 : x65_5 = 0
              ·rw [if_pos c61] at H
               have c61b0 : (x65_5 == 0) = true := beq_iff_eq.mpr c61
               have c61b1 : (x65_5 != 0) = false := bne_eq_false_iff_eq.mpr c61
               clear c61
               by_cases c63 : a1_0 = 4
               ·rw [if_pos c63] at H
                have c63b0 : (a1_0 == 4) = true := beq_iff_eq.mpr c63
                have c63b1 : (a1_0 != 4) = false := bne_eq_false_iff_eq.mpr c63
                clear c63
                by_cases c64 : a1_2.toList = ([] : List UInt8)
                ·rw [if_pos c64] at H
                 have c64b0 : (a1_2.toList == ([] : List UInt8)) = true := beq_iff_eq.mpr c64
                 have c64b1 : (a1_2.toList != ([] : List UInt8)) = false := bne_eq_false_iff_eq.mpr c64
                 clear c64
                 simp only [Option.some.injEq, Prod.mk.injEq] at H
                 obtain ⟨rfl, rfl, rfl, rfl, rfl⟩ := H
                 have hix62 : ∀ W : World, (Instr.index 53 (.agg #[.int .i64 a1_0, .int .i64 a1_1, .string a1_2, .int .i64 x165000_37, .int .i64 x165001_37, .string x165002_37]) (.int .i64 x65_5)).run Try.prog W = .ok (.agg #[.int .i64 a1_0, .int .i64 a1_1, .string a1_2]) W := (by intro W; have hj_ : x65_5 = 0 := beq_iff_eq.1 (by assumption); rw [hj_]; simp [go_sem, Try.underlying53, Try.sizeOf34, Instr.index])
                 go_wp2_with (first | go_step3 | ((with_reducible refine gate_dst (N := 14) rfl ?_); (try (refine gate_guard (by rfl) ?_; dsimp only)); refine box_event ?hg (N := 14) ?hd (cs := #[.int .i64 0, .int .i64 0, .string (⟨#[]⟩ : ByteArray)]) (t := 34) ?hr ?_; (case hd => rfl); (case hg => rfl); (case hr => first | (go_simp; done) | (go_simp; rfl)); intro gb172 hg w65 hbox hb; have n0_ := blb_ BK163 hb; have n1_ := blb_ BK164 hb; have n2_ := blb_ BK165 hb; have n3_ := Aside0.mk (below_step bel_ hb); have n4_ := Aside0.mk (hbox); have n5_ := Aside0.mk ((bsz_ hg : w.heap.size ≤ gb172)); have n6_ := Aside0.mk ((bsz_ hg : w.heap.size ≤ gb172)); have n7_ := Aside0.mk (bne_ BK163 hg : gb163 ≠ gb172); have n8_ := Aside0.mk (bng_ BK163 hg : gb172 ≠ gb163); have n9_ := Aside0.mk (bne_ BK164 hg : gb164 ≠ gb172); have n10_ := Aside0.mk (bng_ BK164 hg : gb172 ≠ gb164); have n11_ := Aside0.mk (bne_ BK165 hg : gb165 ≠ gb172); have n12_ := Aside0.mk (bng_ BK165 hg : gb172 ≠ gb165); clear BK163; clear BK164; clear BK165; clear HB; have BK163 := n0_; have BK164 := n1_; have BK165 := n2_; have HB := n3_; have BK172 := n4_; have GW172 := n5_; have GE172 := n6_; have NB163_172 := n7_; have NB172_163 := n8_; have NB164_172 := n9_; have NB172_164 := n10_; have NB165_172 := n11_; have NB172_165 := n12_; clear n0_ n1_ n2_ n3_ n4_ n5_ n6_ n7_ n8_ n9_ n10_ n11_ n12_; clear hb hbox hg; have hnb66 := NB172_163.out; have hnc66 := NB163_172.out; have hnb67 := NB172_164.out; have hnc67 := NB164_172.out; have hnb68 := NB172_165.out; have hnc68 := NB165_172.out; have hcz69_0 : w65.cell? ⟨gb172, 0, none⟩ = some (.int .i64 0) := (blk_cell BK172.out 0).trans rfl; have hcz69_1 : w65.cell? ⟨gb172, 1, none⟩ = some (.int .i64 0) := (blk_cell BK172.out 1).trans rfl; have hcz69_2 : w65.cell? ⟨gb172, 2, none⟩ = some (.string (⟨#[]⟩ : ByteArray)) := (blk_cell BK172.out 2).trans rfl; have hfz69_0 := blk_frozen BK172.out 0; have hfz69_1 := blk_frozen BK172.out 1; have hfz69_2 := blk_frozen BK172.out 2; have hnb70 := NB165_163.out; have hnc70 := NB163_165.out; have hnb71 := NB165_164.out; have hnc71 := NB164_165.out; have hcz72_0 : w65.cell? ⟨gb165, 0, none⟩ = some (.bool false) := (blk_cell BK165.out 0).trans rfl; have hcz72_1 : w65.cell? ⟨gb165, 1, none⟩ = some (.int .i64 0) := (blk_cell BK165.out 1).trans rfl; have hcz72_2 : w65.cell? ⟨gb165, 2, none⟩ = some (.int .i64 0) := (blk_cell BK165.out 2).trans rfl; have hcz72_3 : w65.cell? ⟨gb165, 3, none⟩ = some (.int .i64 0) := (blk_cell BK165.out 3).trans rfl; have hfz72_0 := blk_frozen BK165.out 0; have hfz72_1 := blk_frozen BK165.out 1; have hfz72_2 := blk_frozen BK165.out 2; have hfz72_3 := blk_frozen BK165.out 3))
                 (try (rw [Exit.noGoto_ret]; try dsimp only [Exit.inBlock, Exit.then]))
                 refine bodyPost_ret (results_ct rfl _ _ gb165 37 #[.bool true, .int .i64 0, .int .i64 0, .int .i64 a1_1] (0, 0) _ rfl (by (with_reducible repeat (first | refine blk_drewN ?_ _ | refine blk_drew ?_ | refine blk_alloc ?_ _)); refine blk_put (cs := #[.bool true, .int .i64 0, .int .i64 0, .int .i64 0]) ?_ 3 _ rfl; (with_reducible repeat (first | refine blk_drewN ?_ _ | refine blk_drew ?_ | refine blk_alloc ?_ _)); refine blk_put (cs := #[.bool true, .int .i64 0, .int .i64 0, .int .i64 0]) ?_ 2 _ rfl; (with_reducible repeat (first | refine blk_drewN ?_ _ | refine blk_drew ?_ | refine blk_alloc ?_ _)); refine blk_put (cs := #[.bool true, .int .i64 0, .int .i64 0, .int .i64 0]) ?_ 1 _ rfl; (with_reducible repeat (first | refine blk_drewN ?_ _ | refine blk_drew ?_ | refine blk_alloc ?_ _)); refine blk_put (cs := #[.bool false, .int .i64 0, .int .i64 0, .int .i64 0]) ?_ 0 _ rfl; (with_reducible repeat (first | refine blk_drewN ?_ _ | refine blk_drew ?_ | refine blk_alloc ?_ _)); refine blk_far ?_ NB165_172.out _; (with_reducible repeat (first | refine blk_drewN ?_ _ | refine blk_drew ?_ | refine blk_alloc ?_ _)); refine blk_far ?_ NB165_172.out _; (with_reducible repeat (first | refine blk_drewN ?_ _ | refine blk_drew ?_ | refine blk_alloc ?_ _)); refine blk_far ?_ NB165_172.out _; (with_reducible repeat (first | refine blk_drewN ?_ _ | refine blk_drew ?_ | refine blk_alloc ?_ _)); exact BK165.out) Try.underlying37 rfl (by kernel_rfl)) rfl ?_
                 exact ⟨rsl_, bel_⟩
                ·rw [if_neg c64] at H
                 have c64b0 : (a1_2.toList == ([] : List UInt8)) = false := beq_eq_false_iff_ne.mpr c64
                 have c64b1 : (a1_2.toList != ([] : List UInt8)) = true := bne_iff_ne.mpr c64
                 have H' := Aside0.mk H
                 clear H
                 have hix62 : ∀ W : World, (Instr.index 53 (.agg #[.int .i64 a1_0, .int .i64 a1_1, .string a1_2, .int .i64 x165000_37, .int .i64 x165001_37, .string x165002_37]) (.int .i64 x65_5)).run Try.prog W = .ok (.agg #[.int .i64 a1_0, .int .i64 a1_1, .string a1_2]) W := (by intro W; have hj_ : x65_5 = 0 := beq_iff_eq.1 (by assumption); rw [hj_]; simp [go_sem, Try.underlying53, Try.sizeOf34, Instr.index])
                 go_wp2_with (first | go_step3 | ((with_reducible refine gate_dst (N := 14) rfl ?_); (try (refine gate_guard (by rfl) ?_; dsimp only)); refine box_event ?hg (N := 14) ?hd (cs := #[.int .i64 0, .int .i64 0, .string (⟨#[]⟩ : ByteArray)]) (t := 34) ?hr ?_; (case hd => rfl); (case hg => rfl); (case hr => first | (go_simp; done) | (go_simp; rfl)); intro gb172 hg w73 hbox hb; have n0_ := blb_ BK163 hb; have n1_ := blb_ BK164 hb; have n2_ := blb_ BK165 hb; have n3_ := Aside0.mk (below_step bel_ hb); have n4_ := Aside0.mk (hbox); have n5_ := Aside0.mk ((bsz_ hg : w.heap.size ≤ gb172)); have n6_ := Aside0.mk ((bsz_ hg : w.heap.size ≤ gb172)); have n7_ := Aside0.mk (bne_ BK163 hg : gb163 ≠ gb172); have n8_ := Aside0.mk (bng_ BK163 hg : gb172 ≠ gb163); have n9_ := Aside0.mk (bne_ BK164 hg : gb164 ≠ gb172); have n10_ := Aside0.mk (bng_ BK164 hg : gb172 ≠ gb164); have n11_ := Aside0.mk (bne_ BK165 hg : gb165 ≠ gb172); have n12_ := Aside0.mk (bng_ BK165 hg : gb172 ≠ gb165); clear BK163; clear BK164; clear BK165; clear HB; have BK163 := n0_; have BK164 := n1_; have BK165 := n2_; have HB := n3_; have BK172 := n4_; have GW172 := n5_; have GE172 := n6_; have NB163_172 := n7_; have NB172_163 := n8_; have NB164_172 := n9_; have NB172_164 := n10_; have NB165_172 := n11_; have NB172_165 := n12_; clear n0_ n1_ n2_ n3_ n4_ n5_ n6_ n7_ n8_ n9_ n10_ n11_ n12_; clear hb hbox hg; have hnb74 := NB172_163.out; have hnc74 := NB163_172.out; have hnb75 := NB172_164.out; have hnc75 := NB164_172.out; have hnb76 := NB172_165.out; have hnc76 := NB165_172.out; have hcz77_0 : w73.cell? ⟨gb172, 0, none⟩ = some (.int .i64 0) := (blk_cell BK172.out 0).trans rfl; have hcz77_1 : w73.cell? ⟨gb172, 1, none⟩ = some (.int .i64 0) := (blk_cell BK172.out 1).trans rfl; have hcz77_2 : w73.cell? ⟨gb172, 2, none⟩ = some (.string (⟨#[]⟩ : ByteArray)) := (blk_cell BK172.out 2).trans rfl; have hfz77_0 := blk_frozen BK172.out 0; have hfz77_1 := blk_frozen BK172.out 1; have hfz77_2 := blk_frozen BK172.out 2))
                 go_roundg k5
                 case measure => have := HJ3.out; have := HJ27.out; have := HJ37.out; have := HJ44.out; have := HK5.out; omega
                 case rel => exact ⟨(x12_5), (wrap64 (x65_5 + 1)), rfs_, rfs_, H', ⟨by have := HJ3.out; have := HJ27.out; have := HJ37.out; have := HJ44.out; have := HK5.out; omega⟩, ⟨by (with_reducible repeat (first | refine blk_drewN ?_ _ | refine blk_drew ?_ | refine blk_alloc ?_ _)); refine blk_far ?_ NB163_172.out _; (with_reducible repeat (first | refine blk_drewN ?_ _ | refine blk_drew ?_ | refine blk_alloc ?_ _)); refine blk_far ?_ NB163_172.out _; (with_reducible repeat (first | refine blk_drewN ?_ _ | refine blk_drew ?_ | refine blk_alloc ?_ _)); refine blk_far ?_ NB163_172.out _; (with_reducible repeat (first | refine blk_drewN ?_ _ | refine blk_drew ?_ | refine blk_alloc ?_ _)); exact BK163.out⟩, ⟨by (with_reducible repeat (first | refine blk_drewN ?_ _ | refine blk_drew ?_ | refine blk_alloc ?_ _)); refine blk_far ?_ NB164_172.out _; (with_reducible repeat (first | refine blk_drewN ?_ _ | refine blk_drew ?_ | refine blk_alloc ?_ _)); refine blk_far ?_ NB164_172.out _; (with_reducible repeat (first | refine blk_drewN ?_ _ | refine blk_drew ?_ | refine blk_alloc ?_ _)); refine blk_far ?_ NB164_172.out _; (with_reducible repeat (first | refine blk_drewN ?_ _ | refine blk_drew ?_ | refine blk_alloc ?_ _)); exact BK164.out⟩, ⟨by (with_reducible repeat (first | refine blk_drewN ?_ _ | refine blk_drew ?_ | refine blk_alloc ?_ _)); refine blk_far ?_ NB165_172.out _; (with_reducible repeat (first | refine blk_drewN ?_ _ | refine blk_drew ?_ | refine blk_alloc ?_ _)); refine blk_far ?_ NB165_172.out _; (with_reducible repeat (first | refine blk_drewN ?_ _ | refine blk_drew ?_ | refine blk_alloc ?_ _)); refine blk_far ?_ NB165_172.out _; (with_reducible repeat (first | refine blk_drewN ?_ _ | refine blk_drew ?_ | refine blk_alloc ?_ _)); exact BK165.out⟩, ⟨bel_⟩⟩
               ·rw [if_neg c63] at H
                have c63b0 : (a1_0 == 4) = false := beq_eq_false_iff_ne.mpr c63
                have c63b1 : (a1_0 != 4) = true := bne_iff_ne.mpr c63
                have H' := Aside0.mk H
                clear H
                have hix62 : ∀ W : World, (Instr.index 53 (.agg #[.int .i64 a1_0, .int .i64 a1_1, .string a1_2, .int .i64 x165000_37, .int .i64 x165001_37, .string x165002_37]) (.int .i64 x65_5)).run Try.prog W = .ok (.agg #[.int .i64 a1_0, .int .i64 a1_1, .string a1_2]) W := (by intro W; have hj_ : x65_5 = 0 := beq_iff_eq.1 (by assumption); rw [hj_]; simp [go_sem, Try.underlying53, Try.sizeOf34, Instr.index])
                go_wp2_with (first | go_step3 | ((with_reducible refine gate_dst (N := 14) rfl ?_); (try (refine gate_guard (by rfl) ?_; dsimp only)); refine box_event ?hg (N := 14) ?hd (cs := #[.int .i64 0, .int .i64 0, .string (⟨#[]⟩ : ByteArray)]) (t := 34) ?hr ?_; (case hd => rfl); (case hg => rfl); (case hr => first | (go_simp; done) | (go_simp; rfl)); intro gb172 hg w78 hbox hb; have n0_ := blb_ BK163 hb; have n1_ := blb_ BK164 hb; have n2_ := blb_ BK165 hb; have n3_ := Aside0.mk (below_step bel_ hb); have n4_ := Aside0.mk (hbox); have n5_ := Aside0.mk ((bsz_ hg : w.heap.size ≤ gb172)); have n6_ := Aside0.mk ((bsz_ hg : w.heap.size ≤ gb172)); have n7_ := Aside0.mk (bne_ BK163 hg : gb163 ≠ gb172); have n8_ := Aside0.mk (bng_ BK163 hg : gb172 ≠ gb163); have n9_ := Aside0.mk (bne_ BK164 hg : gb164 ≠ gb172); have n10_ := Aside0.mk (bng_ BK164 hg : gb172 ≠ gb164); have n11_ := Aside0.mk (bne_ BK165 hg : gb165 ≠ gb172); have n12_ := Aside0.mk (bng_ BK165 hg : gb172 ≠ gb165); clear BK163; clear BK164; clear BK165; clear HB; have BK163 := n0_; have BK164 := n1_; have BK165 := n2_; have HB := n3_; have BK172 := n4_; have GW172 := n5_; have GE172 := n6_; have NB163_172 := n7_; have NB172_163 := n8_; have NB164_172 := n9_; have NB172_164 := n10_; have NB165_172 := n11_; have NB172_165 := n12_; clear n0_ n1_ n2_ n3_ n4_ n5_ n6_ n7_ n8_ n9_ n10_ n11_ n12_; clear hb hbox hg; have hnb79 := NB172_163.out; have hnc79 := NB163_172.out; have hnb80 := NB172_164.out; have hnc80 := NB164_172.out; have hnb81 := NB172_165.out; have hnc81 := NB165_172.out; have hcz82_0 : w78.cell? ⟨gb172, 0, none⟩ = some (.int .i64 0) := (blk_cell BK172.out 0).trans rfl; have hcz82_1 : w78.cell? ⟨gb172, 1, none⟩ = some (.int .i64 0) := (blk_cell BK172.out 1).trans rfl; have hcz82_2 : w78.cell? ⟨gb172, 2, none⟩ = some (.string (⟨#[]⟩ : ByteArray)) := (blk_cell BK172.out 2).trans rfl; have hfz82_0 := blk_frozen BK172.out 0; have hfz82_1 := blk_frozen BK172.out 1; have hfz82_2 := blk_frozen BK172.out 2))
                go_roundg k5
                case measure => have := HJ3.out; have := HJ27.out; have := HJ37.out; have := HJ44.out; have := HK5.out; omega
                case rel => exact ⟨(x12_5), (wrap64 (x65_5 + 1)), rfs_, rfs_, H', ⟨by have := HJ3.out; have := HJ27.out; have := HJ37.out; have := HJ44.out; have := HK5.out; omega⟩, ⟨by (with_reducible repeat (first | refine blk_drewN ?_ _ | refine blk_drew ?_ | refine blk_alloc ?_ _)); refine blk_far ?_ NB163_172.out _; (with_reducible repeat (first | refine blk_drewN ?_ _ | refine blk_drew ?_ | refine blk_alloc ?_ _)); refine blk_far ?_ NB163_172.out _; (with_reducible repeat (first | refine blk_drewN ?_ _ | refine blk_drew ?_ | refine blk_alloc ?_ _)); refine blk_far ?_ NB163_172.out _; (with_reducible repeat (first | refine blk_drewN ?_ _ | refine blk_drew ?_ | refine blk_alloc ?_ _)); exact BK163.out⟩, ⟨by (with_reducible repeat (first | refine blk_drewN ?_ _ | refine blk_drew ?_ | refine blk_alloc ?_ _)); refine blk_far ?_ NB164_172.out _; (with_reducible repeat (first | refine blk_drewN ?_ _ | refine blk_drew ?_ | refine blk_alloc ?_ _)); refine blk_far ?_ NB164_172.out _; (with_reducible repeat (first | refine blk_drewN ?_ _ | refine blk_drew ?_ | refine blk_alloc ?_ _)); refine blk_far ?_ NB164_172.out _; (with_reducible repeat (first | refine blk_drewN ?_ _ | refine blk_drew ?_ | refine blk_alloc ?_ _)); exact BK164.out⟩, ⟨by (with_reducible repeat (first | refine blk_drewN ?_ _ | refine blk_drew ?_ | refine blk_alloc ?_ _)); refine blk_far ?_ NB165_172.out _; (with_reducible repeat (first | refine blk_drewN ?_ _ | refine blk_drew ?_ | refine blk_alloc ?_ _)); refine blk_far ?_ NB165_172.out _; (with_reducible repeat (first | refine blk_drewN ?_ _ | refine blk_drew ?_ | refine blk_alloc ?_ _)); refine blk_far ?_ NB165_172.out _; (with_reducible repeat (first | refine blk_drewN ?_ _ | refine blk_drew ?_ | refine blk_alloc ?_ _)); exact BK165.out⟩, ⟨bel_⟩⟩
              ·rw [if_neg c61] at H
               have c61b0 : (x65_5 == 0) = false := beq_eq_false_iff_ne.mpr c61
               have c61b1 : (x65_5 != 0) = true := bne_iff_ne.mpr c61
               by_cases c83 : x65_5 = 1
               ·rw [if_pos c83] at H
                have c83b0 : (x65_5 == 1) = true := beq_iff_eq.mpr c83
                have c83b1 : (x65_5 != 1) = false := bne_eq_false_iff_eq.mpr c83
                clear c83
                by_cases c85 : x165000_37 = 4
                ·rw [if_pos c85] at H
                 have c85b0 : (x165000_37 == 4) = true := beq_iff_eq.mpr c85
                 have c85b1 : (x165000_37 != 4) = false := bne_eq_false_iff_eq.mpr c85
                 clear c85
                 by_cases c86 : x165002_37.toList = ([] : List UInt8)
                 ·rw [if_pos c86] at H
                  have c86b0 : (x165002_37.toList == ([] : List UInt8)) = true := beq_iff_eq.mpr c86
                  have c86b1 : (x165002_37.toList != ([] : List UInt8)) = false := bne_eq_false_iff_eq.mpr c86
                  clear c86
                  simp only [Option.some.injEq, Prod.mk.injEq] at H
                  obtain ⟨rfl, rfl, rfl, rfl, rfl⟩ := H
                  have hix84 : ∀ W : World, (Instr.index 53 (.agg #[.int .i64 a1_0, .int .i64 a1_1, .string a1_2, .int .i64 x165000_37, .int .i64 x165001_37, .string x165002_37]) (.int .i64 x65_5)).run Try.prog W = .ok (.agg #[.int .i64 x165000_37, .int .i64 x165001_37, .string x165002_37]) W := (by intro W; have hj_ : x65_5 = 1 := beq_iff_eq.1 (by assumption); rw [hj_]; simp [go_sem, Try.underlying53, Try.sizeOf34, Instr.index])
                  go_wp2_with (first | go_step3 | ((with_reducible refine gate_dst (N := 14) rfl ?_); (try (refine gate_guard (by rfl) ?_; dsimp only)); refine box_event ?hg (N := 14) ?hd (cs := #[.int .i64 0, .int .i64 0, .string (⟨#[]⟩ : ByteArray)]) (t := 34) ?hr ?_; (case hd => rfl); (case hg => rfl); (case hr => first | (go_simp; done) | (go_simp; rfl)); intro gb173 hg w87 hbox hb; have n0_ := blb_ BK163 hb; have n1_ := blb_ BK164 hb; have n2_ := blb_ BK165 hb; have n3_ := Aside0.mk (below_step bel_ hb); have n4_ := Aside0.mk (hbox); have n5_ := Aside0.mk ((bsz_ hg : w.heap.size ≤ gb173)); have n6_ := Aside0.mk ((bsz_ hg : w.heap.size ≤ gb173)); have n7_ := Aside0.mk (bne_ BK163 hg : gb163 ≠ gb173); have n8_ := Aside0.mk (bng_ BK163 hg : gb173 ≠ gb163); have n9_ := Aside0.mk (bne_ BK164 hg : gb164 ≠ gb173); have n10_ := Aside0.mk (bng_ BK164 hg : gb173 ≠ gb164); have n11_ := Aside0.mk (bne_ BK165 hg : gb165 ≠ gb173); have n12_ := Aside0.mk (bng_ BK165 hg : gb173 ≠ gb165); clear BK163; clear BK164; clear BK165; clear HB; have BK163 := n0_; have BK164 := n1_; have BK165 := n2_; have HB := n3_; have BK173 := n4_; have GW173 := n5_; have GE173 := n6_; have NB163_173 := n7_; have NB173_163 := n8_; have NB164_173 := n9_; have NB173_164 := n10_; have NB165_173 := n11_; have NB173_165 := n12_; clear n0_ n1_ n2_ n3_ n4_ n5_ n6_ n7_ n8_ n9_ n10_ n11_ n12_; clear hb hbox hg; have hnb88 := NB173_163.out; have hnc88 := NB163_173.out; have hnb89 := NB173_164.out; have hnc89 := NB164_173.out; have hnb90 := NB173_165.out; have hnc90 := NB165_173.out; have hcz91_0 : w87.cell? ⟨gb173, 0, none⟩ = some (.int .i64 0) := (blk_cell BK173.out 0).trans rfl; have hcz91_1 : w87.cell? ⟨gb173, 1, none⟩ = some (.int .i64 0) := (blk_cell BK173.out 1).trans rfl; have hcz91_2 : w87.cell? ⟨gb173, 2, none⟩ = some (.string (⟨#[]⟩ : ByteArray)) := (blk_cell BK173.out 2).trans rfl; have hfz91_0 := blk_frozen BK173.out 0; have hfz91_1 := blk_frozen BK173.out 1; have hfz91_2 := blk_frozen BK173.out 2; have hnb92 := NB165_163.out; have hnc92 := NB163_165.out; have hnb93 := NB165_164.out; have hnc93 := NB164_165.out; have hcz94_0 : w87.cell? ⟨gb165, 0, none⟩ = some (.bool false) := (blk_cell BK165.out 0).trans rfl; have hcz94_1 : w87.cell? ⟨gb165, 1, none⟩ = some (.int .i64 0) := (blk_cell BK165.out 1).trans rfl; have hcz94_2 : w87.cell? ⟨gb165, 2, none⟩ = some (.int .i64 0) := (blk_cell BK165.out 2).trans rfl; have hcz94_3 : w87.cell? ⟨gb165, 3, none⟩ = some (.int .i64 0) := (blk_cell BK165.out 3).trans rfl; have hfz94_0 := blk_frozen BK165.out 0; have hfz94_1 := blk_frozen BK165.out 1; have hfz94_2 := blk_frozen BK165.out 2; have hfz94_3 := blk_frozen BK165.out 3))
                  (try (rw [Exit.noGoto_ret]; try dsimp only [Exit.inBlock, Exit.then]))
                  refine bodyPost_ret (results_ct rfl _ _ gb165 37 #[.bool true, .int .i64 0, .int .i64 0, .int .i64 x165001_37] (0, 0) _ rfl (by (with_reducible repeat (first | refine blk_drewN ?_ _ | refine blk_drew ?_ | refine blk_alloc ?_ _)); refine blk_put (cs := #[.bool true, .int .i64 0, .int .i64 0, .int .i64 0]) ?_ 3 _ rfl; (with_reducible repeat (first | refine blk_drewN ?_ _ | refine blk_drew ?_ | refine blk_alloc ?_ _)); refine blk_put (cs := #[.bool true, .int .i64 0, .int .i64 0, .int .i64 0]) ?_ 2 _ rfl; (with_reducible repeat (first | refine blk_drewN ?_ _ | refine blk_drew ?_ | refine blk_alloc ?_ _)); refine blk_put (cs := #[.bool true, .int .i64 0, .int .i64 0, .int .i64 0]) ?_ 1 _ rfl; (with_reducible repeat (first | refine blk_drewN ?_ _ | refine blk_drew ?_ | refine blk_alloc ?_ _)); refine blk_put (cs := #[.bool false, .int .i64 0, .int .i64 0, .int .i64 0]) ?_ 0 _ rfl; (with_reducible repeat (first | refine blk_drewN ?_ _ | refine blk_drew ?_ | refine blk_alloc ?_ _)); refine blk_far ?_ NB165_173.out _; (with_reducible repeat (first | refine blk_drewN ?_ _ | refine blk_drew ?_ | refine blk_alloc ?_ _)); refine blk_far ?_ NB165_173.out _; (with_reducible repeat (first | refine blk_drewN ?_ _ | refine blk_drew ?_ | refine blk_alloc ?_ _)); refine blk_far ?_ NB165_173.out _; (with_reducible repeat (first | refine blk_drewN ?_ _ | refine blk_drew ?_ | refine blk_alloc ?_ _)); exact BK165.out) Try.underlying37 rfl (by kernel_rfl)) rfl ?_
                  exact ⟨rsl_, bel_⟩
                 ·rw [if_neg c86] at H
                  have c86b0 : (x165002_37.toList == ([] : List UInt8)) = false := beq_eq_false_iff_ne.mpr c86
                  have c86b1 : (x165002_37.toList != ([] : List UInt8)) = true := bne_iff_ne.mpr c86
                  have H' := Aside0.mk H
                  clear H
                  have hix84 : ∀ W : World, (Instr.index 53 (.agg #[.int .i64 a1_0, .int .i64 a1_1, .string a1_2, .int .i64 x165000_37, .int .i64 x165001_37, .string x165002_37]) (.int .i64 x65_5)).run Try.prog W = .ok (.agg #[.int .i64 x165000_37, .int .i64 x165001_37, .string x165002_37]) W := (by intro W; have hj_ : x65_5 = 1 := beq_iff_eq.1 (by assumption); rw [hj_]; simp [go_sem, Try.underlying53, Try.sizeOf34, Instr.index])
                  go_wp2_with (first | go_step3 | ((with_reducible refine gate_dst (N := 14) rfl ?_); (try (refine gate_guard (by rfl) ?_; dsimp only)); refine box_event ?hg (N := 14) ?hd (cs := #[.int .i64 0, .int .i64 0, .string (⟨#[]⟩ : ByteArray)]) (t := 34) ?hr ?_; (case hd => rfl); (case hg => rfl); (case hr => first | (go_simp; done) | (go_simp; rfl)); intro gb173 hg w95 hbox hb; have n0_ := blb_ BK163 hb; have n1_ := blb_ BK164 hb; have n2_ := blb_ BK165 hb; have n3_ := Aside0.mk (below_step bel_ hb); have n4_ := Aside0.mk (hbox); have n5_ := Aside0.mk ((bsz_ hg : w.heap.size ≤ gb173)); have n6_ := Aside0.mk ((bsz_ hg : w.heap.size ≤ gb173)); have n7_ := Aside0.mk (bne_ BK163 hg : gb163 ≠ gb173); have n8_ := Aside0.mk (bng_ BK163 hg : gb173 ≠ gb163); have n9_ := Aside0.mk (bne_ BK164 hg : gb164 ≠ gb173); have n10_ := Aside0.mk (bng_ BK164 hg : gb173 ≠ gb164); have n11_ := Aside0.mk (bne_ BK165 hg : gb165 ≠ gb173); have n12_ := Aside0.mk (bng_ BK165 hg : gb173 ≠ gb165); clear BK163; clear BK164; clear BK165; clear HB; have BK163 := n0_; have BK164 := n1_; have BK165 := n2_; have HB := n3_; have BK173 := n4_; have GW173 := n5_; have GE173 := n6_; have NB163_173 := n7_; have NB173_163 := n8_; have NB164_173 := n9_; have NB173_164 := n10_; have NB165_173 := n11_; have NB173_165 := n12_; clear n0_ n1_ n2_ n3_ n4_ n5_ n6_ n7_ n8_ n9_ n10_ n11_ n12_; clear hb hbox hg; have hnb96 := NB173_163.out; have hnc96 := NB163_173.out; have hnb97 := NB173_164.out; have hnc97 := NB164_173.out; have hnb98 := NB173_165.out; have hnc98 := NB165_173.out; have hcz99_0 : w95.cell? ⟨gb173, 0, none⟩ = some (.int .i64 0) := (blk_cell BK173.out 0).trans rfl; have hcz99_1 : w95.cell? ⟨gb173, 1, none⟩ = some (.int .i64 0) := (blk_cell BK173.out 1).trans rfl; have hcz99_2 : w95.cell? ⟨gb173, 2, none⟩ = some (.string (⟨#[]⟩ : ByteArray)) := (blk_cell BK173.out 2).trans rfl; have hfz99_0 := blk_frozen BK173.out 0; have hfz99_1 := blk_frozen BK173.out 1; have hfz99_2 := blk_frozen BK173.out 2))
                  go_roundg k5
                  case measure => have := HJ3.out; have := HJ27.out; have := HJ37.out; have := HJ44.out; have := HK5.out; omega
                  case rel => exact ⟨(x12_5), (wrap64 (x65_5 + 1)), rfs_, rfs_, H', ⟨by have := HJ3.out; have := HJ27.out; have := HJ37.out; have := HJ44.out; have := HK5.out; omega⟩, ⟨by (with_reducible repeat (first | refine blk_drewN ?_ _ | refine blk_drew ?_ | refine blk_alloc ?_ _)); refine blk_far ?_ NB163_173.out _; (with_reducible repeat (first | refine blk_drewN ?_ _ | refine blk_drew ?_ | refine blk_alloc ?_ _)); refine blk_far ?_ NB163_173.out _; (with_reducible repeat (first | refine blk_drewN ?_ _ | refine blk_drew ?_ | refine blk_alloc ?_ _)); refine blk_far ?_ NB163_173.out _; (with_reducible repeat (first | refine blk_drewN ?_ _ | refine blk_drew ?_ | refine blk_alloc ?_ _)); exact BK163.out⟩, ⟨by (with_reducible repeat (first | refine blk_drewN ?_ _ | refine blk_drew ?_ | refine blk_alloc ?_ _)); refine blk_far ?_ NB164_173.out _; (with_reducible repeat (first | refine blk_drewN ?_ _ | refine blk_drew ?_ | refine blk_alloc ?_ _)); refine blk_far ?_ NB164_173.out _; (with_reducible repeat (first | refine blk_drewN ?_ _ | refine blk_drew ?_ | refine blk_alloc ?_ _)); refine blk_far ?_ NB164_173.out _; (with_reducible repeat (first | refine blk_drewN ?_ _ | refine blk_drew ?_ | refine blk_alloc ?_ _)); exact BK164.out⟩, ⟨by (with_reducible repeat (first | refine blk_drewN ?_ _ | refine blk_drew ?_ | refine blk_alloc ?_ _)); refine blk_far ?_ NB165_173.out _; (with_reducible repeat (first | refine blk_drewN ?_ _ | refine blk_drew ?_ | refine blk_alloc ?_ _)); refine blk_far ?_ NB165_173.out _; (with_reducible repeat (first | refine blk_drewN ?_ _ | refine blk_drew ?_ | refine blk_alloc ?_ _)); refine blk_far ?_ NB165_173.out _; (with_reducible repeat (first | refine blk_drewN ?_ _ | refine blk_drew ?_ | refine blk_alloc ?_ _)); exact BK165.out⟩, ⟨bel_⟩⟩
                ·rw [if_neg c85] at H
                 have c85b0 : (x165000_37 == 4) = false := beq_eq_false_iff_ne.mpr c85
                 have c85b1 : (x165000_37 != 4) = true := bne_iff_ne.mpr c85
                 have H' := Aside0.mk H
                 clear H
                 have hix84 : ∀ W : World, (Instr.index 53 (.agg #[.int .i64 a1_0, .int .i64 a1_1, .string a1_2, .int .i64 x165000_37, .int .i64 x165001_37, .string x165002_37]) (.int .i64 x65_5)).run Try.prog W = .ok (.agg #[.int .i64 x165000_37, .int .i64 x165001_37, .string x165002_37]) W := (by intro W; have hj_ : x65_5 = 1 := beq_iff_eq.1 (by assumption); rw [hj_]; simp [go_sem, Try.underlying53, Try.sizeOf34, Instr.index])
                 go_wp2_with (first | go_step3 | ((with_reducible refine gate_dst (N := 14) rfl ?_); (try (refine gate_guard (by rfl) ?_; dsimp only)); refine box_event ?hg (N := 14) ?hd (cs := #[.int .i64 0, .int .i64 0, .string (⟨#[]⟩ : ByteArray)]) (t := 34) ?hr ?_; (case hd => rfl); (case hg => rfl); (case hr => first | (go_simp; done) | (go_simp; rfl)); intro gb173 hg w100 hbox hb; have n0_ := blb_ BK163 hb; have n1_ := blb_ BK164 hb; have n2_ := blb_ BK165 hb; have n3_ := Aside0.mk (below_step bel_ hb); have n4_ := Aside0.mk (hbox); have n5_ := Aside0.mk ((bsz_ hg : w.heap.size ≤ gb173)); have n6_ := Aside0.mk ((bsz_ hg : w.heap.size ≤ gb173)); have n7_ := Aside0.mk (bne_ BK163 hg : gb163 ≠ gb173); have n8_ := Aside0.mk (bng_ BK163 hg : gb173 ≠ gb163); have n9_ := Aside0.mk (bne_ BK164 hg : gb164 ≠ gb173); have n10_ := Aside0.mk (bng_ BK164 hg : gb173 ≠ gb164); have n11_ := Aside0.mk (bne_ BK165 hg : gb165 ≠ gb173); have n12_ := Aside0.mk (bng_ BK165 hg : gb173 ≠ gb165); clear BK163; clear BK164; clear BK165; clear HB; have BK163 := n0_; have BK164 := n1_; have BK165 := n2_; have HB := n3_; have BK173 := n4_; have GW173 := n5_; have GE173 := n6_; have NB163_173 := n7_; have NB173_163 := n8_; have NB164_173 := n9_; have NB173_164 := n10_; have NB165_173 := n11_; have NB173_165 := n12_; clear n0_ n1_ n2_ n3_ n4_ n5_ n6_ n7_ n8_ n9_ n10_ n11_ n12_; clear hb hbox hg; have hnb101 := NB173_163.out; have hnc101 := NB163_173.out; have hnb102 := NB173_164.out; have hnc102 := NB164_173.out; have hnb103 := NB173_165.out; have hnc103 := NB165_173.out; have hcz104_0 : w100.cell? ⟨gb173, 0, none⟩ = some (.int .i64 0) := (blk_cell BK173.out 0).trans rfl; have hcz104_1 : w100.cell? ⟨gb173, 1, none⟩ = some (.int .i64 0) := (blk_cell BK173.out 1).trans rfl; have hcz104_2 : w100.cell? ⟨gb173, 2, none⟩ = some (.string (⟨#[]⟩ : ByteArray)) := (blk_cell BK173.out 2).trans rfl; have hfz104_0 := blk_frozen BK173.out 0; have hfz104_1 := blk_frozen BK173.out 1; have hfz104_2 := blk_frozen BK173.out 2))
                 go_roundg k5
                 case measure => have := HJ3.out; have := HJ27.out; have := HJ37.out; have := HJ44.out; have := HK5.out; omega
                 case rel => exact ⟨(x12_5), (wrap64 (x65_5 + 1)), rfs_, rfs_, H', ⟨by have := HJ3.out; have := HJ27.out; have := HJ37.out; have := HJ44.out; have := HK5.out; omega⟩, ⟨by (with_reducible repeat (first | refine blk_drewN ?_ _ | refine blk_drew ?_ | refine blk_alloc ?_ _)); refine blk_far ?_ NB163_173.out _; (with_reducible repeat (first | refine blk_drewN ?_ _ | refine blk_drew ?_ | refine blk_alloc ?_ _)); refine blk_far ?_ NB163_173.out _; (with_reducible repeat (first | refine blk_drewN ?_ _ | refine blk_drew ?_ | refine blk_alloc ?_ _)); refine blk_far ?_ NB163_173.out _; (with_reducible repeat (first | refine blk_drewN ?_ _ | refine blk_drew ?_ | refine blk_alloc ?_ _)); exact BK163.out⟩, ⟨by (with_reducible repeat (first | refine blk_drewN ?_ _ | refine blk_drew ?_ | refine blk_alloc ?_ _)); refine blk_far ?_ NB164_173.out _; (with_reducible repeat (first | refine blk_drewN ?_ _ | refine blk_drew ?_ | refine blk_alloc ?_ _)); refine blk_far ?_ NB164_173.out _; (with_reducible repeat (first | refine blk_drewN ?_ _ | refine blk_drew ?_ | refine blk_alloc ?_ _)); refine blk_far ?_ NB164_173.out _; (with_reducible repeat (first | refine blk_drewN ?_ _ | refine blk_drew ?_ | refine blk_alloc ?_ _)); exact BK164.out⟩, ⟨by (with_reducible repeat (first | refine blk_drewN ?_ _ | refine blk_drew ?_ | refine blk_alloc ?_ _)); refine blk_far ?_ NB165_173.out _; (with_reducible repeat (first | refine blk_drewN ?_ _ | refine blk_drew ?_ | refine blk_alloc ?_ _)); refine blk_far ?_ NB165_173.out _; (with_reducible repeat (first | refine blk_drewN ?_ _ | refine blk_drew ?_ | refine blk_alloc ?_ _)); refine blk_far ?_ NB165_173.out _; (with_reducible repeat (first | refine blk_drewN ?_ _ | refine blk_drew ?_ | refine blk_alloc ?_ _)); exact BK165.out⟩, ⟨bel_⟩⟩
               ·rw [if_neg c83] at H
                exact absurd H (by simp)
             ·rw [if_neg c60] at H
              have c60b0 : decide (x65_5 < 2) = false := decide_eq_false c60
              clear c60
              simp only [Option.some.injEq, Prod.mk.injEq] at H
              obtain ⟨rfl, rfl, rfl, rfl, rfl⟩ := H
              have hnb105 := NB165_163.out
              have hnc105 := NB163_165.out
              have hnb106 := NB165_164.out
              have hnc106 := NB164_165.out
              have hcz107_0 : wr.cell? ⟨gb165, 0, none⟩ = some (.bool false) := (blk_cell BK165.out 0).trans rfl
              have hcz107_1 : wr.cell? ⟨gb165, 1, none⟩ = some (.int .i64 0) := (blk_cell BK165.out 1).trans rfl
              have hcz107_2 : wr.cell? ⟨gb165, 2, none⟩ = some (.int .i64 0) := (blk_cell BK165.out 2).trans rfl
              have hcz107_3 : wr.cell? ⟨gb165, 3, none⟩ = some (.int .i64 0) := (blk_cell BK165.out 3).trans rfl
              have hfz107_0 := blk_frozen BK165.out 0
              have hfz107_1 := blk_frozen BK165.out 1
              have hfz107_2 := blk_frozen BK165.out 2
              have hfz107_3 := blk_frozen BK165.out 3
              go_wp2_with (first | go_step3)
              (try (rw [Exit.noGoto_ret]; try dsimp only [Exit.inBlock, Exit.then]))
              refine bodyPost_ret (results_ct rfl _ _ gb165 37 #[.bool true, .int .i64 0, .int .i64 0, .int .i64 x12_5] (0, 0) _ rfl (by (with_reducible repeat (first | refine blk_drewN ?_ _ | refine blk_drew ?_ | refine blk_alloc ?_ _)); refine blk_put (cs := #[.bool true, .int .i64 0, .int .i64 0, .int .i64 0]) ?_ 3 _ rfl; (with_reducible repeat (first | refine blk_drewN ?_ _ | refine blk_drew ?_ | refine blk_alloc ?_ _)); refine blk_put (cs := #[.bool true, .int .i64 0, .int .i64 0, .int .i64 0]) ?_ 2 _ rfl; (with_reducible repeat (first | refine blk_drewN ?_ _ | refine blk_drew ?_ | refine blk_alloc ?_ _)); refine blk_put (cs := #[.bool true, .int .i64 0, .int .i64 0, .int .i64 0]) ?_ 1 _ rfl; (with_reducible repeat (first | refine blk_drewN ?_ _ | refine blk_drew ?_ | refine blk_alloc ?_ _)); refine blk_put (cs := #[.bool false, .int .i64 0, .int .i64 0, .int .i64 0]) ?_ 0 _ rfl; (with_reducible repeat (first | refine blk_drewN ?_ _ | refine blk_drew ?_ | refine blk_alloc ?_ _)); exact BK165.out) Try.underlying37 rfl (by kernel_rfl)) rfl ?_
              exact ⟨rsl_, bel_⟩
          ·replace c54 := Bool.eq_false_iff.mpr c54
           subst c54
           rw [if_neg (show ¬ (false = true) by decide)] at H
           by_cases c108 : t171 = true
           ·subst c108
            rw [if_pos rfl] at H
            by_cases c109 : t169 = true
            ·subst c109
             rw [if_pos rfl] at H
             by_cases c110 : t168 > t170
             ·rw [if_pos c110] at H
              have c110b0 : decide (t170 < t168) = true := decide_eq_true c110
              clear c110
              replace H := Option.bind_eq_some_iff.mp H
              obtain ⟨⟨t174, t175⟩, A1110, H⟩ := H
              try dsimp only at H
              have A111 := Aside0.mk A1110
              clear A1110
              simp only [Option.some.injEq, Prod.mk.injEq] at H
              obtain ⟨rfl, rfl, rfl, rfl, rfl⟩ := H
              go_wp2_with (first | go_step3 | ((with_reducible refine gate_callee (f := 25) rfl ?_); refine goesL_ (some 110) rfl rfl Try.func25 (by kernel_rfl) rfl #[.int .i64 t170, .int .i64 t168] rfl goa_ ?_; (with_reducible refine (resolve_Clamp.calls t170 t168 t174 t175 _ A111.out).mono ?_); rintro e w112 ⟨rfl, hb⟩; refine ⟨_, rfl, ?_⟩; have n0_ := blb_ BK163 hb; have n1_ := blb_ BK164 hb; have n2_ := blb_ BK165 hb; have n3_ := Aside0.mk (below_step bel_ hb); clear BK163; clear BK164; clear BK165; clear HB; have BK163 := n0_; have BK164 := n1_; have BK165 := n2_; have HB := n3_; clear n0_ n1_ n2_ n3_; clear hb; have hnb113 := NB165_163.out; have hnc113 := NB163_165.out; have hnb114 := NB165_164.out; have hnc114 := NB164_165.out; have hcz115_0 : w112.cell? ⟨gb165, 0, none⟩ = some (.bool false) := (blk_cell BK165.out 0).trans rfl; have hcz115_1 : w112.cell? ⟨gb165, 1, none⟩ = some (.int .i64 0) := (blk_cell BK165.out 1).trans rfl; have hcz115_2 : w112.cell? ⟨gb165, 2, none⟩ = some (.int .i64 0) := (blk_cell BK165.out 2).trans rfl; have hcz115_3 : w112.cell? ⟨gb165, 3, none⟩ = some (.int .i64 0) := (blk_cell BK165.out 3).trans rfl; have hfz115_0 := blk_frozen BK165.out 0; have hfz115_1 := blk_frozen BK165.out 1; have hfz115_2 := blk_frozen BK165.out 2; have hfz115_3 := blk_frozen BK165.out 3))
              (try (rw [Exit.noGoto_ret]; try dsimp only [Exit.inBlock, Exit.then]))
              refine bodyPost_ret (results_ct rfl _ _ gb165 37 #[.bool false, .int .i64 t174, .int .i64 t175, .int .i64 0] (0, 0) _ rfl (by (with_reducible repeat (first | refine blk_drewN ?_ _ | refine blk_drew ?_ | refine blk_alloc ?_ _)); refine blk_put (cs := #[.bool false, .int .i64 t174, .int .i64 t175, .int .i64 0]) ?_ 3 _ rfl; (with_reducible repeat (first | refine blk_drewN ?_ _ | refine blk_drew ?_ | refine blk_alloc ?_ _)); refine blk_put (cs := #[.bool false, .int .i64 t174, .int .i64 0, .int .i64 0]) ?_ 2 _ rfl; (with_reducible repeat (first | refine blk_drewN ?_ _ | refine blk_drew ?_ | refine blk_alloc ?_ _)); refine blk_put (cs := #[.bool false, .int .i64 0, .int .i64 0, .int .i64 0]) ?_ 1 _ rfl; (with_reducible repeat (first | refine blk_drewN ?_ _ | refine blk_drew ?_ | refine blk_alloc ?_ _)); refine blk_put (cs := #[.bool false, .int .i64 0, .int .i64 0, .int .i64 0]) ?_ 0 _ rfl; (with_reducible repeat (first | refine blk_drewN ?_ _ | refine blk_drew ?_ | refine blk_alloc ?_ _)); exact BK165.out) Try.underlying37 rfl (by kernel_rfl)) rfl ?_
              exact ⟨rsl_, bel_⟩
             ·rw [if_neg c110] at H
              have c110b0 : decide (t170 < t168) = false := decide_eq_false c110
              clear c110
              by_cases c116 : t168 = t170
              ·rw [if_pos c116] at H
               have c116b0 : (t168 == t170) = true := beq_iff_eq.mpr c116
               have c116b1 : (t168 != t170) = false := bne_eq_false_iff_eq.mpr c116
               clear c116
               replace H := Option.bind_eq_some_iff.mp H
               obtain ⟨⟨t176, t177⟩, A1170, H⟩ := H
               try dsimp only at H
               have A117 := Aside0.mk A1170
               clear A1170
               simp only [Option.some.injEq, Prod.mk.injEq] at H
               obtain ⟨rfl, rfl, rfl, rfl, rfl⟩ := H
               go_wp2_with (first | go_step3 | ((with_reducible refine gate_callee (f := 25) rfl ?_); refine goesL_ (some 110) rfl rfl Try.func25 (by kernel_rfl) rfl #[.int .i64 t168, .int .i64 (wrap64 (t170 + 1))] rfl goa_ ?_; (with_reducible refine (resolve_Clamp.calls t168 (wrap64 (t170 + 1)) t176 t177 _ A117.out).mono ?_); rintro e w118 ⟨rfl, hb⟩; refine ⟨_, rfl, ?_⟩; have n0_ := blb_ BK163 hb; have n1_ := blb_ BK164 hb; have n2_ := blb_ BK165 hb; have n3_ := Aside0.mk (below_step bel_ hb); clear BK163; clear BK164; clear BK165; clear HB; have BK163 := n0_; have BK164 := n1_; have BK165 := n2_; have HB := n3_; clear n0_ n1_ n2_ n3_; clear hb; have hnb119 := NB165_163.out; have hnc119 := NB163_165.out; have hnb120 := NB165_164.out; have hnc120 := NB164_165.out; have hcz121_0 : w118.cell? ⟨gb165, 0, none⟩ = some (.bool false) := (blk_cell BK165.out 0).trans rfl; have hcz121_1 : w118.cell? ⟨gb165, 1, none⟩ = some (.int .i64 0) := (blk_cell BK165.out 1).trans rfl; have hcz121_2 : w118.cell? ⟨gb165, 2, none⟩ = some (.int .i64 0) := (blk_cell BK165.out 2).trans rfl; have hcz121_3 : w118.cell? ⟨gb165, 3, none⟩ = some (.int .i64 0) := (blk_cell BK165.out 3).trans rfl; have hfz121_0 := blk_frozen BK165.out 0; have hfz121_1 := blk_frozen BK165.out 1; have hfz121_2 := blk_frozen BK165.out 2; have hfz121_3 := blk_frozen BK165.out 3))
               (try (rw [Exit.noGoto_ret]; try dsimp only [Exit.inBlock, Exit.then]))
               refine bodyPost_ret (results_ct rfl _ _ gb165 37 #[.bool false, .int .i64 t176, .int .i64 t177, .int .i64 0] (0, 0) _ rfl (by (with_reducible repeat (first | refine blk_drewN ?_ _ | refine blk_drew ?_ | refine blk_alloc ?_ _)); refine blk_put (cs := #[.bool false, .int .i64 t176, .int .i64 t177, .int .i64 0]) ?_ 3 _ rfl; (with_reducible repeat (first | refine blk_drewN ?_ _ | refine blk_drew ?_ | refine blk_alloc ?_ _)); refine blk_put (cs := #[.bool false, .int .i64 t176, .int .i64 0, .int .i64 0]) ?_ 2 _ rfl; (with_reducible repeat (first | refine blk_drewN ?_ _ | refine blk_drew ?_ | refine blk_alloc ?_ _)); refine blk_put (cs := #[.bool false, .int .i64 0, .int .i64 0, .int .i64 0]) ?_ 1 _ rfl; (with_reducible repeat (first | refine blk_drewN ?_ _ | refine blk_drew ?_ | refine blk_alloc ?_ _)); refine blk_put (cs := #[.bool false, .int .i64 0, .int .i64 0, .int .i64 0]) ?_ 0 _ rfl; (with_reducible repeat (first | refine blk_drewN ?_ _ | refine blk_drew ?_ | refine blk_alloc ?_ _)); exact BK165.out) Try.underlying37 rfl (by kernel_rfl)) rfl ?_
               exact ⟨rsl_, bel_⟩
              ·rw [if_neg c116] at H
               have c116b0 : (t168 == t170) = false := beq_eq_false_iff_ne.mpr c116
               have c116b1 : (t168 != t170) = true := bne_iff_ne.mpr c116
               replace H := Option.bind_eq_some_iff.mp H
               obtain ⟨⟨t178, t179⟩, A1220, H⟩ := H
               try dsimp only at H
               have A122 := Aside0.mk A1220
               clear A1220
               simp only [Option.some.injEq, Prod.mk.injEq] at H
               obtain ⟨rfl, rfl, rfl, rfl, rfl⟩ := H
               go_wp2_with (first | go_step3 | ((with_reducible refine gate_callee (f := 25) rfl ?_); refine goesL_ (some 110) rfl rfl Try.func25 (by kernel_rfl) rfl #[.int .i64 t168, .int .i64 t170] rfl goa_ ?_; (with_reducible refine (resolve_Clamp.calls t168 t170 t178 t179 _ A122.out).mono ?_); rintro e w123 ⟨rfl, hb⟩; refine ⟨_, rfl, ?_⟩; have n0_ := blb_ BK163 hb; have n1_ := blb_ BK164 hb; have n2_ := blb_ BK165 hb; have n3_ := Aside0.mk (below_step bel_ hb); clear BK163; clear BK164; clear BK165; clear HB; have BK163 := n0_; have BK164 := n1_; have BK165 := n2_; have HB := n3_; clear n0_ n1_ n2_ n3_; clear hb; have hnb124 := NB165_163.out; have hnc124 := NB163_165.out; have hnb125 := NB165_164.out; have hnc125 := NB164_165.out; have hcz126_0 : w123.cell? ⟨gb165, 0, none⟩ = some (.bool false) := (blk_cell BK165.out 0).trans rfl; have hcz126_1 : w123.cell? ⟨gb165, 1, none⟩ = some (.int .i64 0) := (blk_cell BK165.out 1).trans rfl; have hcz126_2 : w123.cell? ⟨gb165, 2, none⟩ = some (.int .i64 0) := (blk_cell BK165.out 2).trans rfl; have hcz126_3 : w123.cell? ⟨gb165, 3, none⟩ = some (.int .i64 0) := (blk_cell BK165.out 3).trans rfl; have hfz126_0 := blk_frozen BK165.out 0; have hfz126_1 := blk_frozen BK165.out 1; have hfz126_2 := blk_frozen BK165.out 2; have hfz126_3 := blk_frozen BK165.out 3))
               (try (rw [Exit.noGoto_ret]; try dsimp only [Exit.inBlock, Exit.then]))
               refine bodyPost_ret (results_ct rfl _ _ gb165 37 #[.bool false, .int .i64 t178, .int .i64 t179, .int .i64 0] (0, 0) _ rfl (by (with_reducible repeat (first | refine blk_drewN ?_ _ | refine blk_drew ?_ | refine blk_alloc ?_ _)); refine blk_put (cs := #[.bool false, .int .i64 t178, .int .i64 t179, .int .i64 0]) ?_ 3 _ rfl; (with_reducible repeat (first | refine blk_drewN ?_ _ | refine blk_drew ?_ | refine blk_alloc ?_ _)); refine blk_put (cs := #[.bool false, .int .i64 t178, .int .i64 0, .int .i64 0]) ?_ 2 _ rfl; (with_reducible repeat (first | refine blk_drewN ?_ _ | refine blk_drew ?_ | refine blk_alloc ?_ _)); refine blk_put (cs := #[.bool false, .int .i64 0, .int .i64 0, .int .i64 0]) ?_ 1 _ rfl; (with_reducible repeat (first | refine blk_drewN ?_ _ | refine blk_drew ?_ | refine blk_alloc ?_ _)); refine blk_put (cs := #[.bool false, .int .i64 0, .int .i64 0, .int .i64 0]) ?_ 0 _ rfl; (with_reducible repeat (first | refine blk_drewN ?_ _ | refine blk_drew ?_ | refine blk_alloc ?_ _)); exact BK165.out) Try.underlying37 rfl (by kernel_rfl)) rfl ?_
               exact ⟨rsl_, bel_⟩
            ·replace c109 := Bool.eq_false_iff.mpr c109
             subst c109
             rw [if_neg (show ¬ (false = true) by decide)] at H
             replace H := Option.bind_eq_some_iff.mp H
             obtain ⟨t180, A1270, H⟩ := H
             try dsimp only at H
             have A127 := Aside0.mk A1270
             clear A1270
             replace H := Option.bind_eq_some_iff.mp H
             obtain ⟨⟨t181, t182⟩, A1280, H⟩ := H
             try dsimp only at H
             have A128 := Aside0.mk A1280
             clear A1280
             simp only [Option.some.injEq, Prod.mk.injEq] at H
             obtain ⟨rfl, rfl, rfl, rfl, rfl⟩ := H
             have hnb129 := NB163_164.out
             have hnc129 := NB164_163.out
             have hnb130 := NB163_165.out
             have hnc130 := NB165_163.out
             have hcz131_0 : wc.cell? ⟨gb163, 0, none⟩ = some (.int .i64 a1_0) := (blk_cell BK163.out 0).trans rfl
             have hcz131_1 : wc.cell? ⟨gb163, 1, none⟩ = some (.int .i64 a1_1) := (blk_cell BK163.out 1).trans rfl
             have hcz131_2 : wc.cell? ⟨gb163, 2, none⟩ = some (.string a1_2) := (blk_cell BK163.out 2).trans rfl
             have hfz131_0 := blk_frozen BK163.out 0
             have hfz131_1 := blk_frozen BK163.out 1
             have hfz131_2 := blk_frozen BK163.out 2
             go_wp2_with (first | go_step3 | ((with_reducible refine gate_callee (f := 24) rfl ?_); refine goesL_ (some 94) rfl rfl Try.func24 (by kernel_rfl) rfl #[.slice A0 l0.length c0, .int .i64 t170, .agg #[.int .i64 a1_0, .int .i64 a1_1, .string a1_2], .int .i64 (-1)] rfl goa_ ?_; (with_reducible refine (resolve_far.calls kj44 _ _ l0 t170 a1_0 a1_1 a1_2 (-1) t180 _ ?side1 ?side2 A127.out).mono ?_); (case side1 => repeat (first | exact (Kd.C_below HR0.out HB.out) | (with_reducible refine Kd.C_alloc ?_ _) | (with_reducible refine Kd.C_drewN ?_ _) | (with_reducible refine Kd.C_drew ?_))); (case side2 => exact HC0.out); rintro e w132 ⟨rfl, hb⟩; refine ⟨_, rfl, ?_⟩; have n0_ := blb_ BK163 hb; have n1_ := blb_ BK164 hb; have n2_ := blb_ BK165 hb; have n3_ := Aside0.mk (below_step bel_ hb); clear BK163; clear BK164; clear BK165; clear HB; have BK163 := n0_; have BK164 := n1_; have BK165 := n2_; have HB := n3_; clear n0_ n1_ n2_ n3_; clear hb) | ((with_reducible refine gate_callee (f := 25) rfl ?_); refine goesL_ (some 110) rfl rfl Try.func25 (by kernel_rfl) rfl #[.int .i64 t180, .int .i64 t170] rfl goa_ ?_; (with_reducible refine (resolve_Clamp.calls t180 t170 t181 t182 _ A128.out).mono ?_); rintro e w133 ⟨rfl, hb⟩; refine ⟨_, rfl, ?_⟩; have n0_ := blb_ BK163 hb; have n1_ := blb_ BK164 hb; have n2_ := blb_ BK165 hb; have n3_ := Aside0.mk (below_step bel_ hb); clear BK163; clear BK164; clear BK165; clear HB; have BK163 := n0_; have BK164 := n1_; have BK165 := n2_; have HB := n3_; clear n0_ n1_ n2_ n3_; clear hb; have hnb134 := NB165_164.out; have hnc134 := NB164_165.out; have hcz135_0 : w133.cell? ⟨gb165, 0, none⟩ = some (.bool false) := (blk_cell BK165.out 0).trans rfl; have hcz135_1 : w133.cell? ⟨gb165, 1, none⟩ = some (.int .i64 0) := (blk_cell BK165.out 1).trans rfl; have hcz135_2 : w133.cell? ⟨gb165, 2, none⟩ = some (.int .i64 0) := (blk_cell BK165.out 2).trans rfl; have hcz135_3 : w133.cell? ⟨gb165, 3, none⟩ = some (.int .i64 0) := (blk_cell BK165.out 3).trans rfl; have hfz135_0 := blk_frozen BK165.out 0; have hfz135_1 := blk_frozen BK165.out 1; have hfz135_2 := blk_frozen BK165.out 2; have hfz135_3 := blk_frozen BK165.out 3))
             (try (rw [Exit.noGoto_ret]; try dsimp only [Exit.inBlock, Exit.then]))
             refine bodyPost_ret (results_ct rfl _ _ gb165 37 #[.bool false, .int .i64 t181, .int .i64 t182, .int .i64 0] (0, 0) _ rfl (by (with_reducible repeat (first | refine blk_drewN ?_ _ | refine blk_drew ?_ | refine blk_alloc ?_ _)); refine blk_put (cs := #[.bool false, .int .i64 t181, .int .i64 t182, .int .i64 0]) ?_ 3 _ rfl; (with_reducible repeat (first | refine blk_drewN ?_ _ | refine blk_drew ?_ | refine blk_alloc ?_ _)); refine blk_put (cs := #[.bool false, .int .i64 t181, .int .i64 0, .int .i64 0]) ?_ 2 _ rfl; (with_reducible repeat (first | refine blk_drewN ?_ _ | refine blk_drew ?_ | refine blk_alloc ?_ _)); refine blk_put (cs := #[.bool false, .int .i64 0, .int .i64 0, .int .i64 0]) ?_ 1 _ rfl; (with_reducible repeat (first | refine blk_drewN ?_ _ | refine blk_drew ?_ | refine blk_alloc ?_ _)); refine blk_put (cs := #[.bool false, .int .i64 0, .int .i64 0, .int .i64 0]) ?_ 0 _ rfl; (with_reducible repeat (first | refine blk_drewN ?_ _ | refine blk_drew ?_ | refine blk_alloc ?_ _)); exact BK165.out) Try.underlying37 rfl (by kernel_rfl)) rfl ?_
             exact ⟨rsl_, bel_⟩
           ·replace c108 := Bool.eq_false_iff.mpr c108
            subst c108
            rw [if_neg (show ¬ (false = true) by decide)] at H
            replace H := Option.bind_eq_some_iff.mp H
            obtain ⟨t183, A1360, H⟩ := H
            try dsimp only at H
            have A136 := Aside0.mk A1360
            clear A1360
            replace H := Option.bind_eq_some_iff.mp H
            obtain ⟨⟨t184, t185⟩, A1370, H⟩ := H
            try dsimp only at H
            have A137 := Aside0.mk A1370
            clear A1370
            simp only [Option.some.injEq, Prod.mk.injEq] at H
            obtain ⟨rfl, rfl, rfl, rfl, rfl⟩ := H
            have hnb138 := NB164_163.out
            have hnc138 := NB163_164.out
            have hnb139 := NB164_165.out
            have hnc139 := NB165_164.out
            have hcz140_0 : wc.cell? ⟨gb164, 0, none⟩ = some (.int .i64 x165000_37) := (blk_cell BK164.out 0).trans rfl
            have hcz140_1 : wc.cell? ⟨gb164, 1, none⟩ = some (.int .i64 x165001_37) := (blk_cell BK164.out 1).trans rfl
            have hcz140_2 : wc.cell? ⟨gb164, 2, none⟩ = some (.string x165002_37) := (blk_cell BK164.out 2).trans rfl
            have hfz140_0 := blk_frozen BK164.out 0
            have hfz140_1 := blk_frozen BK164.out 1
            have hfz140_2 := blk_frozen BK164.out 2
            go_wp2_with (first | go_step3 | ((with_reducible refine gate_callee (f := 24) rfl ?_); refine goesL_ (some 87) rfl rfl Try.func24 (by kernel_rfl) rfl #[.slice A0 l0.length c0, .int .i64 t168, .agg #[.int .i64 x165000_37, .int .i64 x165001_37, .string x165002_37], .int .i64 1] rfl goa_ ?_; (with_reducible refine (resolve_far.calls kj44 _ _ l0 t168 x165000_37 x165001_37 x165002_37 1 t183 _ ?side1 ?side2 A136.out).mono ?_); (case side1 => repeat (first | exact (Kd.C_below HR0.out HB.out) | (with_reducible refine Kd.C_alloc ?_ _) | (with_reducible refine Kd.C_drewN ?_ _) | (with_reducible refine Kd.C_drew ?_))); (case side2 => exact HC0.out); rintro e w141 ⟨rfl, hb⟩; refine ⟨_, rfl, ?_⟩; have n0_ := blb_ BK163 hb; have n1_ := blb_ BK164 hb; have n2_ := blb_ BK165 hb; have n3_ := Aside0.mk (below_step bel_ hb); clear BK163; clear BK164; clear BK165; clear HB; have BK163 := n0_; have BK164 := n1_; have BK165 := n2_; have HB := n3_; clear n0_ n1_ n2_ n3_; clear hb) | ((with_reducible refine gate_callee (f := 25) rfl ?_); refine goesL_ (some 110) rfl rfl Try.func25 (by kernel_rfl) rfl #[.int .i64 t168, .int .i64 t183] rfl goa_ ?_; (with_reducible refine (resolve_Clamp.calls t168 t183 t184 t185 _ A137.out).mono ?_); rintro e w142 ⟨rfl, hb⟩; refine ⟨_, rfl, ?_⟩; have n0_ := blb_ BK163 hb; have n1_ := blb_ BK164 hb; have n2_ := blb_ BK165 hb; have n3_ := Aside0.mk (below_step bel_ hb); clear BK163; clear BK164; clear BK165; clear HB; have BK163 := n0_; have BK164 := n1_; have BK165 := n2_; have HB := n3_; clear n0_ n1_ n2_ n3_; clear hb; have hnb143 := NB165_163.out; have hnc143 := NB163_165.out; have hcz144_0 : w142.cell? ⟨gb165, 0, none⟩ = some (.bool false) := (blk_cell BK165.out 0).trans rfl; have hcz144_1 : w142.cell? ⟨gb165, 1, none⟩ = some (.int .i64 0) := (blk_cell BK165.out 1).trans rfl; have hcz144_2 : w142.cell? ⟨gb165, 2, none⟩ = some (.int .i64 0) := (blk_cell BK165.out 2).trans rfl; have hcz144_3 : w142.cell? ⟨gb165, 3, none⟩ = some (.int .i64 0) := (blk_cell BK165.out 3).trans rfl; have hfz144_0 := blk_frozen BK165.out 0; have hfz144_1 := blk_frozen BK165.out 1; have hfz144_2 := blk_frozen BK165.out 2; have hfz144_3 := blk_frozen BK165.out 3))
            (try (rw [Exit.noGoto_ret]; try dsimp only [Exit.inBlock, Exit.then]))
            refine bodyPost_ret (results_ct rfl _ _ gb165 37 #[.bool false, .int .i64 t184, .int .i64 t185, .int .i64 0] (0, 0) _ rfl (by (with_reducible repeat (first | refine blk_drewN ?_ _ | refine blk_drew ?_ | refine blk_alloc ?_ _)); refine blk_put (cs := #[.bool false, .int .i64 t184, .int .i64 t185, .int .i64 0]) ?_ 3 _ rfl; (with_reducible repeat (first | refine blk_drewN ?_ _ | refine blk_drew ?_ | refine blk_alloc ?_ _)); refine blk_put (cs := #[.bool false, .int .i64 t184, .int .i64 0, .int .i64 0]) ?_ 2 _ rfl; (with_reducible repeat (first | refine blk_drewN ?_ _ | refine blk_drew ?_ | refine blk_alloc ?_ _)); refine blk_put (cs := #[.bool false, .int .i64 0, .int .i64 0, .int .i64 0]) ?_ 1 _ rfl; (with_reducible repeat (first | refine blk_drewN ?_ _ | refine blk_drew ?_ | refine blk_alloc ?_ _)); refine blk_put (cs := #[.bool false, .int .i64 0, .int .i64 0, .int .i64 0]) ?_ 0 _ rfl; (with_reducible repeat (first | refine blk_drewN ?_ _ | refine blk_drew ?_ | refine blk_alloc ?_ _)); exact BK165.out) Try.underlying37 rfl (by kernel_rfl)) rfl ?_
            exact ⟨rsl_, bel_⟩

end Go.Proofs.Ytaalmkkekbhpnaa.PRa
