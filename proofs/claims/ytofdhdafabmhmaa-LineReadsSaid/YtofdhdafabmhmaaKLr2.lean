/- LineReadsSaid, part 3 of 13: contracts of the program's functions, the words that they use, and the plain laws on what they compute. Conditions: none beyond what the statements say. -/
import Derived.Test.YtofdhdafabmhmaaKLr1
import Derived.Test.YtofdhdafabmhmaaProg
import Derived.Below
import Derived.Deep.Draws
import Derived.Deep.AppendLies
import Derived.Maps.AppendAt
import Derived.OwnWalk
import Derived.Laws.BytesArg
import Derived.Laws.MakeOwn
import Derived.Laws.OwnMore
import Derived.Deep.OwnRows
import Derived.Tactics
import Derived.Lib.ConvBytes
import Derived.Laws.Slices
import Derived.WalkKit
import Derived.KernelRfl
import Derived.RowKit3
import Derived.Deep.LoopGhost
import Derived.Deep.QuietTactic
import Derived.BigQuiet
import Derived.WideLaws
import Derived.Deep.DeepCutAuto
import Derived.Deep.CutBlock
import Derived.Deep.RegionHeld3
import Derived.Laws.Rows
import Derived.Lib.AppendStr
import Derived.ArgAppend
import Derived.Laws.IdiomCopy
import Derived.OrdersHeld
import Derived.Laws.BitsLemmas
import Derived.RowKit
import Derived.Test.YtofdhdafabmhmaaKLr0
import Derived.Shelf.Strings.Builder1
import Derived.Shelf.Small.Strs
import Derived.Shelf.Strings.Search1
import Derived.Shelf.Strings.Search2
import Derived.Shelf.Strings.Search3
import Derived.Shelf.LaysM
import Derived.Shelf.Strings.Shaped
import Derived.WideShapes
import Derived.BigRegion
set_option linter.unusedVariables false
set_option linter.unusedSimpArgs false
section
namespace Go.Proofs.Ytofdhdafabmhmaa.PLr
open Go.RowKit Go.Proofs.YtofdhdafabmhmaaW.PrintWords Go.Proofs.YtofdhdafabmhmaaW.PrintLast Go.Proofs.YtofdhdafabmhmaaW.PrintMore
attribute [local go_sem] max2_int min2_int max_two min_two max_three min_three max_four min_four
open Go.Proofs.Ytofdhdafabmhmaa.Opn Go.Proofs.Ytofdhdafabmhmaa.Giv
set_option maxRecDepth 100000



def errW : Option Int → Value
 | none => .nilIface
 | some c => .iface 0 (.int .i64 c)
theorem errW_none : errW none = .nilIface := rfl
theorem errW_some (c : Int) : errW (some c) = .iface 0 (.int .i64 c) := rfl

theorem info3 : (Try.prog.info? 3).map (fun i => (i.zero, i.size, i.bytes)) = some (some (.int .i64 0), 1, 8) := by kernel_rfl
theorem info5 : (Try.prog.info? 5).map (fun i => (i.zero, i.size, i.bytes)) = some (some (.int .u8 0), 1, 1) := by kernel_rfl
theorem info26 : (Try.prog.info? 26).map (fun i => (i.zero, i.size, i.bytes)) = some (some (.agg #[(.int .i64 0), (.int .i64 0), (.string ⟨#[]⟩)]), 3, 32) := by kernel_rfl
-- the values' own types
/-! #### struct type 43 -/
structure S43 where
 f0 : Int
 f1 : Int
 f2 : ByteArray
 f3 : ByteArray
def z43 : S43 := ⟨(0 : Int), (0 : Int), (⟨#[]⟩ : ByteArray), (⟨#[]⟩ : ByteArray)⟩
def k43 : Kd S43 := Kd.iso (Kd.pair (Kd.int .i64) (Kd.pair (Kd.int .i64) (Kd.pair Kd.string Kd.string))) (fun x : S43 => (x.f0, x.f1, x.f2, x.f3))
theorem k43_open {w : World} {x : S43} {cs : List Value} (h : k43.K w x cs) : cs = [.int .i64 x.f0, .int .i64 x.f1, .string x.f2, .string x.f3] := by
 obtain ⟨_, _, rfl, rfl, ⟨_, _, rfl, rfl, ⟨_, _, rfl, rfl, rfl⟩⟩⟩ := h; exact rfl
theorem k43_mkM (w : World) (base : Nat) (ok : Nat → Prop) (x : S43)  : k43.M w base ok x [.int .i64 x.f0, .int .i64 x.f1, .string x.f2, .string x.f3] := ⟨[.int .i64 x.f0], [.int .i64 x.f1, .string x.f2, .string x.f3], rfl, rfl, ⟨[.int .i64 x.f1], [.string x.f2, .string x.f3], rfl, rfl, ⟨[.string x.f2], [.string x.f3], rfl, rfl, rfl⟩⟩⟩
def rd_T43 (xs : List S43) (i : Int) : S43 := xs.getD i.toNat z43
theorem at_T43 {w : World} {A : Option Addr} {n : Nat} {xs : List S43} (h : Kd.C k43 w A n xs) (i : Int) (h0 : 0 ≤ i) (h1 : i < n) : ∃ ad , A = some ad ∧ w.cell? (ad.add (i.toNat * 4)) = some (.int .i64 (rd_T43 xs i).f0) ∧ w.cell? ⟨(ad.add (i.toNat * 4)).block, (ad.add (i.toNat * 4)).off + 1, none⟩ = some (.int .i64 (rd_T43 xs i).f1) ∧ w.cell? ⟨(ad.add (i.toNat * 4)).block, (ad.add (i.toNat * 4)).off + 2, none⟩ = some (.string (rd_T43 xs i).f2) ∧ w.cell? ⟨(ad.add (i.toNat * 4)).block, (ad.add (i.toNat * 4)).off + 3, none⟩ = some (.string (rd_T43 xs i).f3) := by
 obtain ⟨ad, c, e, _, hK, hc0⟩ := Kd.C_get h z43 i h0 h1; have hc : ∀ j u, c[j]? = some u → w.cell? (ad.add (i.toNat * 4 + j)) = some u := hc0; obtain rfl := k43_open hK; exact ⟨ad, e, hc 0 _ rfl, by rw [← add_field _ _ 1 (by omega)]; exact hc 1 _ rfl, by rw [← add_field _ _ 2 (by omega)]; exact hc 2 _ rfl, by rw [← add_field _ _ 3 (by omega)]; exact hc 3 _ rfl⟩

/-! #### struct type 93 -/
structure S93 where
 f0 : Bool
 f1 : ByteArray
 f2 : ByteArray
 f3 : ByteArray
 f4 : Int
/-! #### struct type 26 -/
structure S26 where
 f0 : Int
 f1 : Int
 f2 : ByteArray
def z26 : S26 := ⟨(0 : Int), (0 : Int), (⟨#[]⟩ : ByteArray)⟩
def k26 : Kd S26 := Kd.iso (Kd.pair (Kd.int .i64) (Kd.pair (Kd.int .i64) Kd.string)) (fun x : S26 => (x.f0, x.f1, x.f2))
theorem k26_open {w : World} {x : S26} {cs : List Value} (h : k26.K w x cs) : cs = [.int .i64 x.f0, .int .i64 x.f1, .string x.f2] := by
 obtain ⟨_, _, rfl, rfl, ⟨_, _, rfl, rfl, rfl⟩⟩ := h; exact rfl
theorem k26_mkM (w : World) (base : Nat) (ok : Nat → Prop) (x : S26)  : k26.M w base ok x [.int .i64 x.f0, .int .i64 x.f1, .string x.f2] := ⟨[.int .i64 x.f0], [.int .i64 x.f1, .string x.f2], rfl, rfl, ⟨[.int .i64 x.f1], [.string x.f2], rfl, rfl, rfl⟩⟩
def rd_T26 (xs : List S26) (i : Int) : S26 := xs.getD i.toNat z26
theorem at_T26 {w : World} {A : Option Addr} {n : Nat} {xs : List S26} (h : Kd.C k26 w A n xs) (i : Int) (h0 : 0 ≤ i) (h1 : i < n) : ∃ ad , A = some ad ∧ w.cell? (ad.add (i.toNat * 3)) = some (.int .i64 (rd_T26 xs i).f0) ∧ w.cell? ⟨(ad.add (i.toNat * 3)).block, (ad.add (i.toNat * 3)).off + 1, none⟩ = some (.int .i64 (rd_T26 xs i).f1) ∧ w.cell? ⟨(ad.add (i.toNat * 3)).block, (ad.add (i.toNat * 3)).off + 2, none⟩ = some (.string (rd_T26 xs i).f2) := by
 obtain ⟨ad, c, e, _, hK, hc0⟩ := Kd.C_get h z26 i h0 h1; have hc : ∀ j u, c[j]? = some u → w.cell? (ad.add (i.toNat * 3 + j)) = some u := hc0; obtain rfl := k26_open hK; exact ⟨ad, e, hc 0 _ rfl, by rw [← add_field _ _ 1 (by omega)]; exact hc 1 _ rfl, by rw [← add_field _ _ 2 (by omega)]; exact hc 2 _ rfl⟩

/-! #### struct type 36 -/
structure S36 where
 f0 : S26
 f1 : S26
 f2 : S26
 f3 : S26

theorem eqA26 (d : Nat) (w : World) (x0 y0 : Int) (x1 y1 : Int) (x2 y2 : ByteArray) :
  (Op.equalIn (d + 2) 26 (.agg #[.int .i64 x0, .int .i64 x1, .string x2]) (.agg #[.int .i64 y0, .int .i64 y1, .string y2])).run Try.prog w = .ok (x0 == y0 && (x1 == y1 && (x2.toList == y2.toList))) w := by
 refine eqA_of Try.underlying26 (by kernel_rfl) ?_
 refine eqf_cons (by rfl) (by go_simp; rfl) (by go_simp; rfl) (by go_simp) ?_
 refine eqf_cons (by rfl) (by go_simp; rfl) (by go_simp; rfl) (by go_simp) ?_
 exact eqf_last (by rfl) (by go_simp; rfl) (by go_simp; rfl) (by go_simp)
end Go.Proofs.Ytofdhdafabmhmaa.PLr
end
section
namespace Go.Proofs.Ytofdhdafabmhmaa.PLr
open Go.RowKit Go.Proofs.YtofdhdafabmhmaaW.PrintWords Go.Proofs.YtofdhdafabmhmaaW.PrintLast Go.Proofs.YtofdhdafabmhmaaW.PrintMore
attribute [local go_sem] max2_int min2_int max_two min_two max_three min_three max_four min_four
open Go.Proofs.Ytofdhdafabmhmaa Go.Proofs.Ytofdhdafabmhmaa.Opn Go.Proofs.Ytofdhdafabmhmaa.Giv
set_option maxRecDepth 100000

theorem eqA36 (d : Nat) (w : World) (x0 y0 : Int) (x1 y1 : Int) (x2 y2 : ByteArray) (x3 y3 : Int) (x4 y4 : Int) (x5 y5 : ByteArray) (x6 y6 : Int) (x7 y7 : Int) (x8 y8 : ByteArray) (x9 y9 : Int) (x10 y10 : Int) (x11 y11 : ByteArray) :
  (Op.equalIn (d + 3) 36 (.agg #[.int .i64 x0, .int .i64 x1, .string x2, .int .i64 x3, .int .i64 x4, .string x5, .int .i64 x6, .int .i64 x7, .string x8, .int .i64 x9, .int .i64 x10, .string x11]) (.agg #[.int .i64 y0, .int .i64 y1, .string y2, .int .i64 y3, .int .i64 y4, .string y5, .int .i64 y6, .int .i64 y7, .string y8, .int .i64 y9, .int .i64 y10, .string y11])).run Try.prog w = .ok ((x0 == y0 && (x1 == y1 && (x2.toList == y2.toList))) && ((x3 == y3 && (x4 == y4 && (x5.toList == y5.toList))) && ((x6 == y6 && (x7 == y7 && (x8.toList == y8.toList))) && ((x9 == y9 && (x10 == y10 && (x11.toList == y11.toList))))))) w := by
 refine EqA.arr_of (c := 3) Try.underlying36 (by kernel_rfl) (by kernel_rfl) ?_
 show (Op.eqItems _ _ _ _ _ [0, 1, 2, 3]).run _ _ = _
 refine EqA.items_cons (by go_simp) (by go_simp) (eqA26 (d + 0) w _ _ _ _ _ _) ?_
 refine EqA.items_cons (by go_simp) (by go_simp) (eqA26 (d + 0) w _ _ _ _ _ _) ?_
 refine EqA.items_cons (by go_simp) (by go_simp) (eqA26 (d + 0) w _ _ _ _ _ _) ?_
 exact EqA.items_last (by go_simp) (by go_simp) (eqA26 (d + 0) w _ _ _ _ _ _)
end Go.Proofs.Ytofdhdafabmhmaa.PLr
end
section
namespace Go.Proofs.Ytofdhdafabmhmaa.PLr
open Go.RowKit Go.Proofs.YtofdhdafabmhmaaW.PrintWords Go.Proofs.YtofdhdafabmhmaaW.PrintLast Go.Proofs.YtofdhdafabmhmaaW.PrintMore
attribute [local go_sem] max2_int min2_int max_two min_two max_three min_three max_four min_four
open Go.Proofs.Ytofdhdafabmhmaa.Opn Go.Proofs.Ytofdhdafabmhmaa.Giv
set_option maxRecDepth 100000

/-! ### parterrelaw07_few: function 4 -/
def parterrelaw07_few.l0 : Nat → List (S43) → Int → Int → Option (Bool)
 | 0, _, _, _ => none
 | k + 1, x8, x9, x10 => if x10 < x9 then (if 0 ≤ x10 then (if x10 < (x8.length : Int) then (if (((rd_T43 x8 x10).f3).size : Int) > 400 then (some false) else (if (((rd_T43 x8 x10).f2).size : Int) > 400 then (some false) else (parterrelaw07_few.l0 k x8 x9 (wrap64 (x10 + 1))))) else (none)) else (none)) else (some true)
def parterrelaw07_few.f (k : Nat) (l0 : List (S43)) : Option (Bool) := if (l0.length : Int) > 500 then (some false) else (parterrelaw07_few.l0 k l0 (l0.length : Int) 0)
theorem parterrelaw07_few.mono_l : ∀ k, (∀ y0 y1 y2, LeO (parterrelaw07_few.l0 k y0 y1 y2) (parterrelaw07_few.l0 (k + 1) y0 y1 y2))
 | 0 => fun _ _ _ r h => by simp [parterrelaw07_few.l0] at h
 | k + 1 => by
  have ih0 := parterrelaw07_few.mono_l k; intro y0 y1 y2; unfold parterrelaw07_few.l0; repeat' first
  | (with_reducible exact ih0 _ _ _)
  | (with_reducible first | exact LeO.refl _ | exact LeO.none _ | refine LeO.ite ?_ ?_ | refine LeO.bind ?_ (fun _ => ?_))
theorem parterrelaw07_few.mono : ∀ a0 k, LeO (parterrelaw07_few.f k a0) (parterrelaw07_few.f (k + 1) a0) := by
 intro a0 k; have ih0 := parterrelaw07_few.mono_l k; unfold parterrelaw07_few.f; repeat' first
   | (with_reducible exact ih0 _ _ _)
   | (with_reducible first | exact LeO.refl _ | exact LeO.none _ | refine LeO.ite ?_ ?_ | refine LeO.bind ?_ (fun _ => ?_))
set_option maxHeartbeats 8000000 in
theorem parterrelaw07_few.calls (k : Nat) (A0 : Option Addr) (c0 : Nat) (l0 : List (S43)) (r : Bool) (w : World) (hr0 : Kd.C k43 w A0 l0.length l0) (hc0 : l0.length ≤ c0) (h : parterrelaw07_few.f k l0 = some r) :
  Calls Try.prog 4 #[.slice A0 l0.length c0] w fun e w' => e = .returned (.bool r) ∧ Below w.heap.size w w' := by
 have hu43 := Try.underlying43; have HR0 := am_ hr0; have HC0 := am_ hc0; clear hr0 hc0; have HB := am_ (Below.refl w.heap.size w); have H : (if (l0.length : Int) > 500 then (some false) else (parterrelaw07_few.l0 k l0 (l0.length : Int) 0)) = some r := h; clear h; by_cases c2 : (l0.length : Int) > 500
 ·rw [if_pos c2] at H; have c2b0 : decide (500 < (l0.length : Int)) = true := dt_ c2; have c2b1 : decide (500 < l0.length) = true := dt_ (by omega); clear c2; obtain rfl := si_ H; go_enter Try.func4, Try.ntmps4
  go_wp2; go_ret
  exact ⟨rsl_, bel_⟩
 rw [if_neg c2] at H; have c2b0 : decide (500 < (l0.length : Int)) = false := df_ c2; have c2b1 : decide (500 < l0.length) = false := df_ (by omega); clear c2; have H' := am_ H; clear H; go_enter Try.func4, Try.ntmps4
 go_wp2; go_loopg [10] k (fun kq v10 w' => ∃ (x10_1 : Int), v10 = .int .i64 x10_1 ∧ Aside0 (parterrelaw07_few.l0 kq l0 (l0.length : Int) x10_1 = some r) ∧ Aside0 (kq ≤ k) ∧ Aside0 (Below w.heap.size w w'))
 case atStart => exact ⟨(0), rfs_, H', ⟨Nat.le_refl _⟩, ⟨bel_⟩⟩
 case round =>
  clear H'; try clear c2b0
  try clear c2b1
  obtain ⟨x10_1, rfl, HA, HK1, HB⟩ := hrel
  cases gk with
  | zero => exact absurd HA.out (by simp [parterrelaw07_few.l0])
  | succ k1 =>
   have H := HA.out; clear HA; simp only [parterrelaw07_few.l0] at H; by_cases c3 : x10_1 < (l0.length : Int)
   ·rw [if_pos c3] at H; have c3b0 : decide (x10_1 < (l0.length : Int)) = true := dt_ c3; clear c3; by_cases c4 : 0 ≤ x10_1
    ·rw [if_pos c4] at H; have c4b0 : decide (0 ≤ x10_1) = true := dt_ c4; clear c4; by_cases c5 : x10_1 < (l0.length : Int)
     ·rw [if_pos c5] at H; have c5b0 : decide (x10_1 < (l0.length : Int)) = true := dt_ c5; clear c5; by_cases c6 : (((rd_T43 l0 x10_1).f3).size : Int) > 400
      ·rw [if_pos c6] at H; have c6b0 : decide (400 < (((rd_T43 l0 x10_1).f3).size : Int)) = true := dt_ c6; have c6b1 : decide (400 < ((rd_T43 l0 x10_1).f3).size) = true := dt_ (by omega); clear c6; obtain rfl := si_ H; have p101 : 0 ≤ (x10_1 : Int) := od_ (by first | (with_reducible assumption) | assumption); have q101 : x10_1 < (l0.length : Int) := od_ (by first | (with_reducible assumption) | assumption); obtain ⟨ad101, e101, hx101_0, hx101_1, hx101_2, hx101_3⟩ := at_T43 HR0.out x10_1 p101 q101; cases e101
       replace hx101_0 := (HB.out.cell (World.block_lt_of_cell? w _ hx101_0)).trans hx101_0; replace hx101_1 := (HB.out.cell (World.block_lt_of_cell? w _ hx101_1)).trans hx101_1; replace hx101_2 := (HB.out.cell (World.block_lt_of_cell? w _ hx101_2)).trans hx101_2; replace hx101_3 := (HB.out.cell (World.block_lt_of_cell? w _ hx101_3)).trans hx101_3; replace p101 := eq_true p101; replace q101 := eq_true q101; go_wp2_with (first | ((with_reducible refine gate_dst (N := 4) rfl ?_); (try (refine gate_guard (by rfl) ?_; dsimp only)); refine box_event ?hg (N := 4) ?hd (cs := #[.int .i64 0, .int .i64 0, .string (⟨#[]⟩ : ByteArray), .string (⟨#[]⟩ : ByteArray)]) (t := 43) ?hr ?_; (case hd => rfl); (case hg => rfl); (case hr => first | (go_simp; done) | (go_simp; rfl)); intro gb102 hg w7 hbox hb; have BK102 := am_ (hbox); have GW102 := am_ ((bsz_ hg : w.heap.size ≤ gb102)); have GE102 := am_ ((bsz_ hg : w.heap.size ≤ gb102)); replace HB := am_ (below_step bel_ hb); clear hb hbox hg; obtain ⟨hcz8_0, hcz8_1, hcz8_2, hcz8_3⟩ := c4_ BK102; obtain ⟨hfz8_0, hfz8_1, hfz8_2, hfz8_3⟩ := f4_ BK102))
       go_ret
       exact ⟨rsl_, bel_⟩
      rw [if_neg c6] at H; have c6b0 : decide (400 < (((rd_T43 l0 x10_1).f3).size : Int)) = false := df_ c6; have c6b1 : decide (400 < ((rd_T43 l0 x10_1).f3).size) = false := df_ (by omega); clear c6; by_cases c9 : (((rd_T43 l0 x10_1).f2).size : Int) > 400
      ·rw [if_pos c9] at H; have c9b0 : decide (400 < (((rd_T43 l0 x10_1).f2).size : Int)) = true := dt_ c9; have c9b1 : decide (400 < ((rd_T43 l0 x10_1).f2).size) = true := dt_ (by omega); clear c9; obtain rfl := si_ H; have p101 : 0 ≤ (x10_1 : Int) := od_ (by first | (with_reducible assumption) | assumption); have q101 : x10_1 < (l0.length : Int) := od_ (by first | (with_reducible assumption) | assumption); obtain ⟨ad101, e101, hx101_0, hx101_1, hx101_2, hx101_3⟩ := at_T43 HR0.out x10_1 p101 q101; cases e101
       replace hx101_0 := (HB.out.cell (World.block_lt_of_cell? w _ hx101_0)).trans hx101_0; replace hx101_1 := (HB.out.cell (World.block_lt_of_cell? w _ hx101_1)).trans hx101_1; replace hx101_2 := (HB.out.cell (World.block_lt_of_cell? w _ hx101_2)).trans hx101_2; replace hx101_3 := (HB.out.cell (World.block_lt_of_cell? w _ hx101_3)).trans hx101_3; replace p101 := eq_true p101; replace q101 := eq_true q101; go_wp2_with (first | ((with_reducible refine gate_dst (N := 4) rfl ?_); (try (refine gate_guard (by rfl) ?_; dsimp only)); refine box_event ?hg (N := 4) ?hd (cs := #[.int .i64 0, .int .i64 0, .string (⟨#[]⟩ : ByteArray), .string (⟨#[]⟩ : ByteArray)]) (t := 43) ?hr ?_; (case hd => rfl); (case hg => rfl); (case hr => first | (go_simp; done) | (go_simp; rfl)); intro gb102 hg w10 hbox hb; have BK102 := am_ (hbox); have GW102 := am_ ((bsz_ hg : w.heap.size ≤ gb102)); have GE102 := am_ ((bsz_ hg : w.heap.size ≤ gb102)); replace HB := am_ (below_step bel_ hb); clear hb hbox hg; obtain ⟨hcz11_0, hcz11_1, hcz11_2, hcz11_3⟩ := c4_ BK102; obtain ⟨hfz11_0, hfz11_1, hfz11_2, hfz11_3⟩ := f4_ BK102))
       go_ret
       exact ⟨rsl_, bel_⟩
      rw [if_neg c9] at H; have c9b0 : decide (400 < (((rd_T43 l0 x10_1).f2).size : Int)) = false := df_ c9; have c9b1 : decide (400 < ((rd_T43 l0 x10_1).f2).size) = false := df_ (by omega); clear c9; have H' := am_ H; clear H; have p101 : 0 ≤ (x10_1 : Int) := od_ (by first | (with_reducible assumption) | assumption); have q101 : x10_1 < (l0.length : Int) := od_ (by first | (with_reducible assumption) | assumption); obtain ⟨ad101, e101, hx101_0, hx101_1, hx101_2, hx101_3⟩ := at_T43 HR0.out x10_1 p101 q101; cases e101
      replace hx101_0 := (HB.out.cell (World.block_lt_of_cell? w _ hx101_0)).trans hx101_0; replace hx101_1 := (HB.out.cell (World.block_lt_of_cell? w _ hx101_1)).trans hx101_1; replace hx101_2 := (HB.out.cell (World.block_lt_of_cell? w _ hx101_2)).trans hx101_2; replace hx101_3 := (HB.out.cell (World.block_lt_of_cell? w _ hx101_3)).trans hx101_3; replace p101 := eq_true p101; replace q101 := eq_true q101; go_wp2_with (first | ((with_reducible refine gate_dst (N := 4) rfl ?_); (try (refine gate_guard (by rfl) ?_; dsimp only)); refine box_event ?hg (N := 4) ?hd (cs := #[.int .i64 0, .int .i64 0, .string (⟨#[]⟩ : ByteArray), .string (⟨#[]⟩ : ByteArray)]) (t := 43) ?hr ?_; (case hd => rfl); (case hg => rfl); (case hr => first | (go_simp; done) | (go_simp; rfl)); intro gb102 hg w12 hbox hb; have BK102 := am_ (hbox); have GW102 := am_ ((bsz_ hg : w.heap.size ≤ gb102)); have GE102 := am_ ((bsz_ hg : w.heap.size ≤ gb102)); replace HB := am_ (below_step bel_ hb); clear hb hbox hg; obtain ⟨hcz13_0, hcz13_1, hcz13_2, hcz13_3⟩ := c4_ BK102; obtain ⟨hfz13_0, hfz13_1, hfz13_2, hfz13_3⟩ := f4_ BK102))
      go_roundg k1
      case measure => have := HK1.out; omega
      case rel => exact ⟨(wrap64 (x10_1 + 1)), rfs_, H', ⟨by have := HK1.out; omega⟩, ⟨bel_⟩⟩
     rw [if_neg c5] at H; exact absurd H (by simp)
    rw [if_neg c4] at H; exact absurd H (by simp)
   rw [if_neg c3] at H; have c3b0 : decide (x10_1 < (l0.length : Int)) = false := df_ c3; clear c3; obtain rfl := si_ H; go_wp2; go_ret
   exact ⟨rsl_, bel_⟩

/-! ### ident_Lower: function 30 -/
def ident_Lower.low (c : Int) : Int := if c ≥ 65 then (if c ≤ 90 then c + 32 else c) else c
def ident_Lower.at (s : ByteArray) (i j : Nat) : Int := if j < i then ident_Lower.low (bt s j) else bt s j
def ident_Lower.f (s : ByteArray) : Option ByteArray := if s.size ≤ 140737488351232 then some (strOfNums ((List.range s.size).map fun j => ident_Lower.low (bt s (j : Nat)))) else none
structure ident_Lower.Holds (w w1 : World) (g : Nat) (s : ByteArray) (i : Nat) : Prop where
 lo : w.heap.size ≤ g
 b : Below w.heap.size w w1
 o : ∃ cs lo hi, w1.heap[g]? = some (.cells cs 5 (lo, hi)) ∧ (∀ j, j < s.size → cs[j]? = some (.int .u8 (ident_Lower.at s i j))) ∧ s.size ≤ lo
theorem ident_Lower.Holds.cell {w w1 : World} {g : Nat} {s : ByteArray} {i : Nat} (h : ident_Lower.Holds w w1 g s i) {j : Nat} (hj : j < s.size) : w1.cell? ⟨g, j, none⟩ = some (.int .u8 (ident_Lower.at s i j)) := by
 obtain ⟨cs, lo, hi, h1, h2, h3⟩ := h.o; rw [cell_of_row _ _ _ _ _ _ h1]; exact h2 j hj
theorem ident_Lower.Holds.froz {w w1 : World} {g : Nat} {s : ByteArray} {i : Nat} (h : ident_Lower.Holds w w1 g s i) {j : Nat} (hj : j < s.size) : w1.frozen? ⟨g, j, none⟩ = false := by
 obtain ⟨cs, lo, hi, h1, h2, h3⟩ := h.o; have : ¬ lo ≤ j := by omega
 simp [World.frozen?, h1, this]
theorem ident_Lower.Holds.start (w : World) (s : ByteArray) : ident_Lower.Holds w (Lib.bytesWorld w 5 s) w.heap.size s 0 := by
 refine ⟨Nat.le_refl _, bytes_below (Below.refl _ _) (Nat.le_refl _) _ s, _, _, _, Lib.bytesWorld_at_new w _ s, fun j hj => ?_, ?_⟩
 ·have h := Lib.bytesWorld_cell w 5 s j hj; rw [cell_of_row _ _ _ _ _ _ (Lib.bytesWorld_at_new w _ s)] at h; rw [h]; have hb : ident_Lower.at s 0 j = bt s j := by simp [ident_Lower.at]
  rw [hb, ← bt_at s (j : Int) (by simpa using hj)]; simp [List.getD_eq_getElem?_getD, hj]
  rfl
 simp [Lib.bytesCells]
theorem ident_Lower.Holds.drewN {w w1 : World} {g : Nat} {s : ByteArray} {i : Nat} (h : ident_Lower.Holds w w1 g s i) (n : Nat) : ident_Lower.Holds w (w1.drewN n) g s i :=
 ⟨h.lo, h.b.trans ⟨rfl, rfl, rfl, Nat.le_refl _, fun _ _ => rfl⟩, h.o⟩
theorem ident_Lower.Holds.skip {w w1 : World} {g : Nat} {s : ByteArray} {i : Nat} (h : ident_Lower.Holds w w1 g s i) (he : ident_Lower.low (bt s (i : Nat)) = bt s (i : Nat)) : ident_Lower.Holds w w1 g s (i + 1) := by
 obtain ⟨cs, lo, hi, h1, h2, h3⟩ := h.o; refine ⟨h.lo, h.b, cs, lo, hi, h1, fun j hj => ?_, h3⟩
 rw [h2 j hj]; congr 2
 unfold ident_Lower.at; rcases Nat.lt_trichotomy j i with h4 | rfl | h4
 ·rw [if_pos h4, if_pos (by omega)]
 ·rw [if_neg (by omega), if_pos (by omega), he]
 rw [if_neg (by omega), if_neg (by omega)]
theorem ident_Lower.Holds.set {w w1 : World} {g : Nat} {s : ByteArray} {i : Nat} (h : ident_Lower.Holds w w1 g s i) (v : Int) (hv : v = ident_Lower.low (bt s (i : Nat))) : ident_Lower.Holds w (w1.setCell ⟨g, i, none⟩ (.int .u8 v)) g s (i + 1) := by
 obtain ⟨cs, lo, hi, h1, h2, h3⟩ := h.o; refine ⟨h.lo, below_set h.b h.lo, cs.setIfInBounds i (.int .u8 v), lo, hi, ?_, fun j hj => ?_, h3⟩
 ·simp [World.setCell, Array.getElem?_modify, h1]
 unfold ident_Lower.at; rcases Nat.lt_trichotomy j i with h4 | rfl | h4
 ·rw [Array.getElem?_setIfInBounds_ne (by omega), h2 j hj, if_pos (by omega)]; unfold ident_Lower.at; rw [if_pos h4]
 ·have hs : j < cs.size := (Array.getElem?_eq_some_iff.1 (h2 j hj)).1; rw [Array.getElem?_setIfInBounds_self_of_lt hs, if_pos (by omega), hv]
 rw [Array.getElem?_setIfInBounds_ne (by omega), h2 j hj, if_neg (by omega)]; unfold ident_Lower.at; rw [if_neg (by omega)]
theorem ident_Lower.Holds.read {w w1 : World} {g : Nat} {s : ByteArray} (h : ident_Lower.Holds w w1 g s s.size) (hs : s.size ≤ 140737488351232) (c : Nat) :
  (convert 65 9 (.slice (some ⟨g, 0, none⟩) s.size c)).run Try.prog w1 = .ok (.string (strOfNums ((List.range s.size).map fun j => ident_Lower.low (bt s (j : Nat))))) w1 := by
 refine string_of_reads Try.underlying65 Try.underlying5 Try.underlying9 ⟨by simp, by omega, fun _ => ⟨_, rfl, fun j hj => ?_⟩⟩
 rw [add_plain, h.cell hj]; simp [ident_Lower.at, hj, List.getD_eq_getElem?_getD]
theorem ident_Lower.next {i n : Nat} (h1 : i < n) (hs : n ≤ 140737488351232) : wrap64 ((i : Int) + 1) = ((i + 1 : Nat) : Int) := by
 unfold wrap64; omega
theorem ident_Lower.less {i n : Nat} (h1 : i < n) (hw : wrap64 ((i : Int) + 1) = ((i + 1 : Nat) : Int)) : n - (intOf (.int .i64 (wrap64 ((i : Int) + 1)))).toNat < n - (intOf (.int .i64 (i : Int))).toNat := by
 rw [hw]; show n - (((i + 1 : Nat) : Int)).toNat < n - ((i : Int)).toNat
 rw [Int.toNat_natCast, Int.toNat_natCast]; clear hw; omega

set_option maxHeartbeats 400000 in
theorem ident_Lower.calls (s : ByteArray) (r : ByteArray) (w : World) (h : ident_Lower.f s = some r) :
  Calls Try.prog 30 #[.string s] w fun e w' => e = .returned (.string r) ∧ Below w.heap.size w w' := by
 unfold ident_Lower.f at h; by_cases hs : s.size ≤ 140737488351232
 ·rw [if_pos hs] at h; have HR := am_ (si_ h); have HS := am_ hs; clear h hs; have kb := fun W => print_bytes (P := Try.prog) 9 65 5 Try.underlying9 Try.underlying65 Try.underlying5 s W
  go_enter Try.func30, Try.ntmps30
  go_wp2; go_loopw [9] (fun v9 wr => ∃ (i : Nat), i ≤ s.size ∧ v9 = .int .i64 i ∧ Aside0 (ident_Lower.Holds w wr w.heap.size s i)) (fun v9 _ => s.size - (intOf v9).toNat)
  case atStart => exact ⟨0, Nat.zero_le _, rfl, ⟨ident_Lower.Holds.start w s⟩⟩
  case round =>
   clear kb; obtain ⟨i, hi, rfl, HH⟩ := hrel; by_cases hlt : i < s.size
   ·have q0 : (0 ≤ (i : Int)) = True := eq_true (by omega); have q1 : ((i : Int) < (s.size : Int)) = True := eq_true (by omega); have q2 : decide ((i : Int) < (s.size : Int)) = true := dt_ (by omega); have q3 : decide (i < s.size) = true := dt_ hlt; have q4 : (i < s.size) = True := eq_true hlt; have hx : wr.cell? ⟨w.heap.size, i, none⟩ = some (.int .u8 (bt s (i : Nat))) := by
     rw [HH.out.cell hlt]; simp [ident_Lower.at]
    have hz := HH.out.froz hlt; have H1 := am_ hlt; have HW := am_ (ident_Lower.next hlt HS.out); have hA := add_plain w.heap.size i; clear hlt hi; by_cases c1 : bt s (i : Nat) ≥ 65
    ·have c1b : decide (65 ≤ bt s (i : Nat)) = true := dt_ c1; by_cases c2 : bt s (i : Nat) ≤ 90
     ·have c2b : decide (bt s (i : Nat) ≤ 90) = true := dt_ c2; have HV : Aside0 ((bt s (i : Nat) + 32) % 256 = ident_Lower.low (bt s (i : Nat))) := ⟨by unfold ident_Lower.low; rw [if_pos c1, if_pos c2]; omega⟩
      clear c1 c2; go_wp2; go_roundw
      case rel => exact ⟨i + 1, H1.out, by rw [HW.out], ⟨HH.out.set _ HV.out⟩⟩
      case measure => exact ident_Lower.less H1.out HW.out
     have c2b : decide (bt s (i : Nat) ≤ 90) = false := df_ c2; have HV : Aside0 (ident_Lower.low (bt s (i : Nat)) = bt s (i : Nat)) := ⟨by unfold ident_Lower.low; rw [if_pos c1, if_neg c2]⟩
     clear c1 c2; go_wp2; go_roundw
     case rel => exact ⟨i + 1, H1.out, by rw [HW.out], ⟨HH.out.skip HV.out⟩⟩
     case measure => exact ident_Lower.less H1.out HW.out
    have c1b : decide (65 ≤ bt s (i : Nat)) = false := df_ c1; have HV : Aside0 (ident_Lower.low (bt s (i : Nat)) = bt s (i : Nat)) := ⟨by unfold ident_Lower.low; rw [if_neg c1]⟩
    clear c1; go_wp2; go_roundw
    case rel => exact ⟨i + 1, H1.out, by rw [HW.out], ⟨HH.out.skip HV.out⟩⟩
    case measure => exact ident_Lower.less H1.out HW.out
   have hie : i = s.size := by omega
   subst hie; have q2 : decide ((s.size : Int) < (s.size : Int)) = false := df_ (by omega); have q3 : decide (s.size < s.size) = false := df_ (by omega); have hk := HH.out.read HS.out (grownCap w s.size 0 5); clear hlt; rw [HR.out] at hk; go_wp2; go_ret
   exact ⟨rfl, HH.out.b⟩
 rw [if_neg hs] at h; cases h

/-! ### ident_Is: function 18 -/
def ident_Is.f (a0 : ByteArray) (a1 : ByteArray) : Option (Bool) := (ident_Lower.f a0).bind fun t103 => ((ident_Lower.f a1).bind fun t104 => (some (t103.toList == t104.toList)))
set_option maxHeartbeats 8000000 in
theorem ident_Is.calls (a0 : ByteArray) (a1 : ByteArray) (r : Bool) (w : World) (h : ident_Is.f a0 a1 = some r) :
  Calls Try.prog 18 #[.string a0, .string a1] w fun e w' => e = .returned (.bool r) ∧ Below w.heap.size w w' := by
 have HB := am_ (Below.refl w.heap.size w); have H : ((ident_Lower.f a0).bind fun t103 => ((ident_Lower.f a1).bind fun t104 => (some (t103.toList == t104.toList)))) = some r := h; clear h; replace H := bs_ H; obtain ⟨t103, A30, H⟩ := H; try dsimp only at H
 have A3 := am_ A30; clear A30; replace H := bs_ H; obtain ⟨t104, A40, H⟩ := H; try dsimp only at H
 have A4 := am_ A40; clear A40; obtain rfl := si_ H; go_enter Try.func18, Try.ntmps18
 go_wp2_with (first | ((with_reducible refine gate_callee (f := 30) rfl ?_); refine goesL_ (some 6) rfl rfl Try.func30 (by kernel_rfl) rfl #[.string a0] rfl goa_ ?_; (with_reducible refine (ident_Lower.calls a0 t103 _ A3.out).mono ?_); rintro e w5 ⟨rfl, hb⟩; refine ⟨_, rfl, ?_⟩; replace HB := am_ (below_step bel_ hb); clear hb) | ((with_reducible refine gate_callee (f := 30) rfl ?_); refine goesL_ (some 8) rfl rfl Try.func30 (by kernel_rfl) rfl #[.string a1] rfl goa_ ?_; (with_reducible refine (ident_Lower.calls a1 t104 _ A4.out).mono ?_); rintro e w6 ⟨rfl, hb⟩; refine ⟨_, rfl, ?_⟩; replace HB := am_ (below_step bel_ hb); clear hb))
 go_ret
 exact ⟨rsl_, bel_⟩

/-! ### value_word: function 28 -/
def value_word.f (l0 : List (S43)) (a1 : Int) : Option (Int × Int × ByteArray × ByteArray) := if a1 < 0 then (some (8, 0, (⟨#[]⟩ : ByteArray), (⟨#[]⟩ : ByteArray))) else (if a1 ≥ (l0.length : Int) then (some (8, 0, (⟨#[]⟩ : ByteArray), (⟨#[]⟩ : ByteArray))) else (if 0 ≤ a1 then (if a1 < (l0.length : Int) then (some ((rd_T43 l0 a1).f0, (rd_T43 l0 a1).f1, (rd_T43 l0 a1).f2, (rd_T43 l0 a1).f3)) else (none)) else (none)))
set_option maxHeartbeats 8000000 in
theorem value_word.calls (A0 : Option Addr) (c0 : Nat) (l0 : List (S43)) (a1 : Int) (r1 : Int) (r2 : Int) (r3 : ByteArray) (r4 : ByteArray) (w : World) (hr0 : Kd.C k43 w A0 l0.length l0) (hc0 : l0.length ≤ c0) (h : value_word.f l0 a1 = some (r1, r2, r3, r4)) :
  Calls Try.prog 28 #[.slice A0 l0.length c0, .int .i64 a1] w fun e w' => e = .returned (.agg #[.int .i64 r1, .int .i64 r2, .string r3, .string r4]) ∧ Below w.heap.size w w' := by
 have hu43 := Try.underlying43; have HR0 := am_ hr0; have HC0 := am_ hc0; clear hr0 hc0; have HB := am_ (Below.refl w.heap.size w); have H : (if a1 < 0 then (some (8, 0, (⟨#[]⟩ : ByteArray), (⟨#[]⟩ : ByteArray))) else (if a1 ≥ (l0.length : Int) then (some (8, 0, (⟨#[]⟩ : ByteArray), (⟨#[]⟩ : ByteArray))) else (if 0 ≤ a1 then (if a1 < (l0.length : Int) then (some ((rd_T43 l0 a1).f0, (rd_T43 l0 a1).f1, (rd_T43 l0 a1).f2, (rd_T43 l0 a1).f3)) else (none)) else (none)))) = some (r1, r2, r3, r4) := h; clear h; by_cases c3 : a1 < 0
 ·rw [if_pos c3] at H; have c3b0 : decide (a1 < 0) = true := dt_ c3; clear c3; simp only [Option.some.injEq, Prod.mk.injEq] at H; obtain ⟨rfl, rfl, rfl, rfl⟩ := H; go_enter Try.func28, Try.ntmps28
  go_wp2_with (first | ((with_reducible refine gate_dst (N := 4) rfl ?_); (try (refine gate_guard (by rfl) ?_; dsimp only)); refine box_event ?hg (N := 4) ?hd (cs := #[.int .i64 0, .int .i64 0, .string (⟨#[]⟩ : ByteArray), .string (⟨#[]⟩ : ByteArray)]) (t := 43) ?hr ?_; (case hd => rfl); (case hg => rfl); (case hr => first | (go_simp; done) | (go_simp; rfl)); intro gb105 hg w4 hbox hb; have BK105 := am_ (hbox); have GW105 := am_ ((bsz_ hg : w.heap.size ≤ gb105)); have GE105 := am_ ((bsz_ hg : w.heap.size ≤ gb105)); replace HB := am_ (below_step bel_ hb); clear hb hbox hg; obtain ⟨hcz5_0, hcz5_1, hcz5_2, hcz5_3⟩ := c4_ BK105; obtain ⟨hfz5_0, hfz5_1, hfz5_2, hfz5_3⟩ := f4_ BK105))
  refine bodyPost_ret (results_cell_row rfl _ _ gb105 43 #[.int .i64 8, .int .i64 0, .string (⟨#[]⟩ : ByteArray), .string (⟨#[]⟩ : ByteArray)] (0, 0) _ rfl (bch_) Try.underlying43 rfl (by kernel_rfl)) rfl ?_
  exact ⟨rsl_, bel_⟩
 rw [if_neg c3] at H; have c3b0 : decide (a1 < 0) = false := df_ c3; clear c3; by_cases c6 : a1 ≥ (l0.length : Int)
 ·rw [if_pos c6] at H; have c6b0 : decide ((l0.length : Int) ≤ a1) = true := dt_ c6; clear c6; simp only [Option.some.injEq, Prod.mk.injEq] at H; obtain ⟨rfl, rfl, rfl, rfl⟩ := H; go_enter Try.func28, Try.ntmps28
  go_wp2_with (first | ((with_reducible refine gate_dst (N := 4) rfl ?_); (try (refine gate_guard (by rfl) ?_; dsimp only)); refine box_event ?hg (N := 4) ?hd (cs := #[.int .i64 0, .int .i64 0, .string (⟨#[]⟩ : ByteArray), .string (⟨#[]⟩ : ByteArray)]) (t := 43) ?hr ?_; (case hd => rfl); (case hg => rfl); (case hr => first | (go_simp; done) | (go_simp; rfl)); intro gb105 hg w7 hbox hb; have BK105 := am_ (hbox); have GW105 := am_ ((bsz_ hg : w.heap.size ≤ gb105)); have GE105 := am_ ((bsz_ hg : w.heap.size ≤ gb105)); replace HB := am_ (below_step bel_ hb); clear hb hbox hg; obtain ⟨hcz8_0, hcz8_1, hcz8_2, hcz8_3⟩ := c4_ BK105; obtain ⟨hfz8_0, hfz8_1, hfz8_2, hfz8_3⟩ := f4_ BK105))
  refine bodyPost_ret (results_cell_row rfl _ _ gb105 43 #[.int .i64 8, .int .i64 0, .string (⟨#[]⟩ : ByteArray), .string (⟨#[]⟩ : ByteArray)] (0, 0) _ rfl (bch_) Try.underlying43 rfl (by kernel_rfl)) rfl ?_
  exact ⟨rsl_, bel_⟩
 rw [if_neg c6] at H; have c6b0 : decide ((l0.length : Int) ≤ a1) = false := df_ c6; clear c6; by_cases c9 : 0 ≤ a1
 ·rw [if_pos c9] at H; have c9b0 : decide (0 ≤ a1) = true := dt_ c9; clear c9; by_cases c10 : a1 < (l0.length : Int)
  ·rw [if_pos c10] at H; have c10b0 : decide (a1 < (l0.length : Int)) = true := dt_ c10; clear c10; simp only [Option.some.injEq, Prod.mk.injEq] at H; obtain ⟨rfl, rfl, rfl, rfl⟩ := H; go_enter Try.func28, Try.ntmps28
   go_wp2_with (first | ((with_reducible refine gate_dst (N := 4) rfl ?_); (try (refine gate_guard (by rfl) ?_; dsimp only)); refine box_event ?hg (N := 4) ?hd (cs := #[.int .i64 0, .int .i64 0, .string (⟨#[]⟩ : ByteArray), .string (⟨#[]⟩ : ByteArray)]) (t := 43) ?hr ?_; (case hd => rfl); (case hg => rfl); (case hr => first | (go_simp; done) | (go_simp; rfl)); intro gb105 hg w11 hbox hb; have BK105 := am_ (hbox); have GW105 := am_ ((bsz_ hg : w.heap.size ≤ gb105)); have GE105 := am_ ((bsz_ hg : w.heap.size ≤ gb105)); replace HB := am_ (below_step bel_ hb); clear hb hbox hg; have p106 : 0 ≤ (a1 : Int) := od_ (by first | (with_reducible assumption) | assumption); have q106 : a1 < (l0.length : Int) := od_ (by first | (with_reducible assumption) | assumption); obtain ⟨ad106, e106, hx106_0, hx106_1, hx106_2, hx106_3⟩ := at_T43 HR0.out a1 p106 q106; cases e106; replace hx106_0 := (HB.out.cell (World.block_lt_of_cell? w _ hx106_0)).trans hx106_0; replace hx106_1 := (HB.out.cell (World.block_lt_of_cell? w _ hx106_1)).trans hx106_1; replace hx106_2 := (HB.out.cell (World.block_lt_of_cell? w _ hx106_2)).trans hx106_2; replace hx106_3 := (HB.out.cell (World.block_lt_of_cell? w _ hx106_3)).trans hx106_3; replace p106 := eq_true p106; replace q106 := eq_true q106; obtain ⟨hcz12_0, hcz12_1, hcz12_2, hcz12_3⟩ := c4_ BK105; obtain ⟨hfz12_0, hfz12_1, hfz12_2, hfz12_3⟩ := f4_ BK105))
   refine bodyPost_ret (results_cell_row rfl _ _ gb105 43 #[.int .i64 ((rd_T43 l0 a1).f0), .int .i64 ((rd_T43 l0 a1).f1), .string ((rd_T43 l0 a1).f2), .string ((rd_T43 l0 a1).f3)] (0, 0) _ rfl (bch_) Try.underlying43 rfl (by kernel_rfl)) rfl ?_
   exact ⟨rsl_, bel_⟩
  rw [if_neg c10] at H; exact absurd H (by simp)
 rw [if_neg c9] at H; exact absurd H (by simp)

end Go.Proofs.Ytofdhdafabmhmaa.PLr
end
section
/- Contracts of the library's functions that this place's programs call, laid by the kit's shelf in plain words. -/
namespace Go.Proofs
open Go.Shelf
def Try.lays169_ren : Go.Shelf.Ren := ⟨fun | 169 => 81 | n => n, fun | 70 => 98 | 9 => 9 | 0 => 0 | 72 => 100 | 37 => 65 | 127 => 112 | 3 => 3 | 5 => 5 | n => n, fun | n => n⟩
theorem Try.lays169 : Go.Proofs.Lays.n169 Try.prog Try.lays169_ren := {
  mixed := by kernel_rfl
  f169 := Try.func81.trans (congrArg some (by kernel_rfl))
  t0 := Try.underlying0
  a0 := Try.isAgg0
  z0 := Try.sizeOf0
  v0 := Try.zeroValue0
  t3 := Try.underlying3
  a3 := Try.isAgg3
  z3 := Try.sizeOf3
  v3 := Try.zeroValue3
  t9 := Try.underlying9
  a9 := Try.isAgg9
  z9 := Try.sizeOf9
  v9 := Try.zeroValue9
  t37 := Try.underlying65
  a37 := Try.isAgg65
  z37 := Try.sizeOf65
  v37 := Try.zeroValue65
  t70 := Try.underlying98
  a70 := Try.isAgg98
  z70 := Try.sizeOf98
  v70 := Try.zeroValue98
  t72 := Try.underlying100
  a72 := Try.isAgg100
  z72 := Try.sizeOf100
  v72 := Try.zeroValue100
  t127 := Try.underlying112
  a127 := Try.isAgg112
  z127 := Try.sizeOf112
  v127 := Try.zeroValue112 }
theorem Try.Builder_Extra_169 : Builder.Extra Try.prog Try.lays169_ren := {
  sizeBuilder := by kernel_rfl
  liesBuilder := by kernel_rfl
  t5 := Try.underlying5
  a5 := Try.isAgg5
  z5 := Try.sizeOf5
  v5 := Try.zeroValue5
  infoByte := by kernel_rfl
  cellsByte := by kernel_rfl
  sizeByte := by kernel_rfl
  neB5 := by decide }
open Go.RowKit in
/-- (*strings.Builder).String: "String returns the accumulated string.": WHATEVER THE BUILDER HOLDS. (LAID: no walk: one application.) -/
theorem Try.Builder_String_any (B b : Nat) (l : List UInt8) (w : World) (h : Lib.IsBuilder 100 5 B b (Lib.byteCells l) w) (hBw : B ≤ w.heap.size) :
    Calls Try.prog 81 #[.pointer (some ⟨b, 0, none⟩)] w fun e w' => e = .returned (.string ⟨l.toArray⟩) ∧ Below B w w' := Any.Builder_String_any Try.lays169 Try.Builder_Extra_169 B b l w h hBw
def Try.lays137_ren : Go.Shelf.Ren := ⟨fun | 137 => 45 | 217 => 67 | 266 => 89 | n => n, fun | 9 => 9 | 5 => 5 | 3 => 3 | n => n, fun | n => n⟩
theorem Try.lays137 : Go.Proofs.Lays.n137 Try.prog Try.lays137_ren := {
  mixed := by kernel_rfl
  f137 := Try.func45.trans (congrArg some (by kernel_rfl))
  f217 := Try.func67.trans (congrArg some (by kernel_rfl))
  f266 := Try.func89.trans (congrArg some (by kernel_rfl))
  t3 := Try.underlying3
  a3 := Try.isAgg3
  z3 := Try.sizeOf3
  v3 := Try.zeroValue3
  t5 := Try.underlying5
  a5 := Try.isAgg5
  z5 := Try.sizeOf5
  v5 := Try.zeroValue5
  t9 := Try.underlying9
  a9 := Try.isAgg9
  z9 := Try.sizeOf9
  v9 := Try.zeroValue9 }
open Go.RowKit in
/-- strings.IndexByte: "IndexByte returns the index of the first instance of c in s, or -1 if c is not present in s.": IT RETURNS 'Lib.indexByte s c'; the world is as it was. (LAID: no walk: one application.) -/
theorem Try.strings_IndexByte (s : ByteArray) (c : Int) (w : World) :
    Calls Try.prog 45 #[.string s, .int .u8 c] w fun e w' => e = .returned (.int .i64 (Lib.indexByte s.data.toList c.toNat.toUInt8)) ∧ w' = w := Any.strings_IndexByte Try.lays137 s c w
def Try.lays143_ren : Go.Shelf.Ren := ⟨fun | 143 => 43 | 219 => 62 | 217 => 67 | 225 => 83 | 224 => 84 | 267 => 85 | 266 => 89 | 314 => 93 | n => n, fun | 9 => 9 | 3 => 3 | 4 => 4 | 5 => 5 | 46 => 109 | 146 => 114 | 51 => 113 | n => n, fun | 1 => 0 | n => n⟩
theorem Try.lays143 : Go.Proofs.Lays.n143 Try.prog Try.lays143_ren := {
  mixed := by kernel_rfl
  f143 := Try.func43.trans (congrArg some (by kernel_rfl))
  f217 := Try.func67.trans (congrArg some (by kernel_rfl))
  f219 := Try.func62.trans (congrArg some (by kernel_rfl))
  f224 := Try.func84.trans (congrArg some (by kernel_rfl))
  f225 := Try.func83.trans (congrArg some (by kernel_rfl))
  f266 := Try.func89.trans (congrArg some (by kernel_rfl))
  f267 := Try.func85.trans (congrArg some (by kernel_rfl))
  f314 := Try.func93.trans (congrArg some (by kernel_rfl))
  t3 := Try.underlying3
  a3 := Try.isAgg3
  z3 := Try.sizeOf3
  v3 := Try.zeroValue3
  t4 := Try.underlying4
  a4 := Try.isAgg4
  z4 := Try.sizeOf4
  v4 := Try.zeroValue4
  t5 := Try.underlying5
  a5 := Try.isAgg5
  z5 := Try.sizeOf5
  v5 := Try.zeroValue5
  t9 := Try.underlying9
  a9 := Try.isAgg9
  z9 := Try.sizeOf9
  v9 := Try.zeroValue9
  t46 := Try.underlying109
  a46 := Try.isAgg109
  z46 := Try.sizeOf109
  v46 := Try.zeroValue109
  t51 := Try.underlying113
  a51 := Try.isAgg113
  z51 := Try.sizeOf113
  v51 := Try.zeroValue113
  t146 := Try.underlying114
  a146 := Try.isAgg114
  z146 := Try.sizeOf114
  v146 := Try.zeroValue114
  g1 := by kernel_rfl }
open Go.RowKit Go.Lib in
/-- strings.Index: "Index returns the index of the first instance of substr in s, or -1 if substr is not present in s.": AT A substr OF ONE BYTE c: IT RETURNS 'Lib.indexByte s c'; the world is as it was. (LAID: no walk: one application.) -/
theorem Try.strings_Index_one (s : ByteArray) (c : UInt8) (w : World) :
    Calls Try.prog 43 #[.string s, .string ⟨#[c]⟩] w fun e w' => e = .returned (.int .i64 (Lib.indexByte s.data.toList c)) ∧ w' = w := Any.strings_Index_one Try.lays143 s c w
open Go.RowKit Go.Lib in
/-- strings.Index: "Index returns the index of the first instance of substr in s, or -1 if substr is not present in s.": IT RETURNS 'Lib.index s substr'; the world is as it was. (LAID: no walk: one application.) -/
theorem Try.strings_Index (s sub : ByteArray) (m : Int) (w : World) (hs : s.size < 4294967281) (hm : w.cell? ⟨0, 0, none⟩ = some (.int .i64 m)) :
    Calls Try.prog 43 #[.string s, .string sub] w fun e w' => e = .returned (.int .i64 (Lib.index s.data.toList sub.data.toList)) ∧ w' = w := Any.strings_Index Try.lays143 s sub m w hs hm
def Try.lays144_ren : Go.Shelf.Ren := ⟨fun | 144 => 29 | 143 => 43 | 219 => 62 | 217 => 67 | 225 => 83 | 224 => 84 | 267 => 85 | 266 => 89 | 314 => 93 | n => n, fun | 9 => 9 | 4 => 4 | 3 => 3 | 5 => 5 | 46 => 109 | 146 => 114 | 51 => 113 | n => n, fun | 1 => 0 | n => n⟩
theorem Try.lays144 : Go.Proofs.Lays.n144 Try.prog Try.lays144_ren := {
  mixed := by kernel_rfl
  f143 := Try.func43.trans (congrArg some (by kernel_rfl))
  f144 := Try.func29.trans (congrArg some (by kernel_rfl))
  f217 := Try.func67.trans (congrArg some (by kernel_rfl))
  f219 := Try.func62.trans (congrArg some (by kernel_rfl))
  f224 := Try.func84.trans (congrArg some (by kernel_rfl))
  f225 := Try.func83.trans (congrArg some (by kernel_rfl))
  f266 := Try.func89.trans (congrArg some (by kernel_rfl))
  f267 := Try.func85.trans (congrArg some (by kernel_rfl))
  f314 := Try.func93.trans (congrArg some (by kernel_rfl))
  t3 := Try.underlying3
  a3 := Try.isAgg3
  z3 := Try.sizeOf3
  v3 := Try.zeroValue3
  t4 := Try.underlying4
  a4 := Try.isAgg4
  z4 := Try.sizeOf4
  v4 := Try.zeroValue4
  t5 := Try.underlying5
  a5 := Try.isAgg5
  z5 := Try.sizeOf5
  v5 := Try.zeroValue5
  t9 := Try.underlying9
  a9 := Try.isAgg9
  z9 := Try.sizeOf9
  v9 := Try.zeroValue9
  t46 := Try.underlying109
  a46 := Try.isAgg109
  z46 := Try.sizeOf109
  v46 := Try.zeroValue109
  t51 := Try.underlying113
  a51 := Try.isAgg113
  z51 := Try.sizeOf113
  v51 := Try.zeroValue113
  t146 := Try.underlying114
  a146 := Try.isAgg114
  z146 := Try.sizeOf114
  v146 := Try.zeroValue114
  g1 := by kernel_rfl }
open Go.RowKit Go.Lib in
/-- strings.Contains: "Contains reports whether substr is within s.": IT RETURNS 'Lib.contains s substr'; the world is as it was. (LAID: no walk: one application.) -/
theorem Try.strings_Contains (s sub : ByteArray) (m : Int) (w : World) (hs : s.size < 4294967281) (hm : w.cell? ⟨0, 0, none⟩ = some (.int .i64 m)) :
    Calls Try.prog 29 #[.string s, .string sub] w fun e w' => e = .returned (.bool (Lib.contains s.data.toList sub.data.toList)) ∧ w' = w := Any.strings_Contains Try.lays144 s sub m w hs hm
end Go.Proofs
end
section
namespace Go.Proofs.Ytofdhdafabmhmaa.PLr
open Go.RowKit Go.Proofs.YtofdhdafabmhmaaW.PrintWords Go.Proofs.YtofdhdafabmhmaaW.PrintLast Go.Proofs.YtofdhdafabmhmaaW.PrintMore
attribute [local go_sem] max2_int min2_int max_two min_two max_three min_three max_four min_four
open Go.Proofs.Ytofdhdafabmhmaa.Opn Go.Proofs.Ytofdhdafabmhmaa.Giv
set_option maxRecDepth 100000

/-! ### value_Keyword: function 13 -/
def value_Keyword.l0 : Nat → Int → List ByteArray → Int → Int → Int → Int → ByteArray → ByteArray → Option (Int × Int)
 | 0, _, _, _, _, _, _, _, _ => none
 | k + 1, x1, x17, x18, x19, x112000, x112001, x112002, x112003 => if x19 < x18 then (if 0 ≤ x19 then (if x19 < (x17.length : Int) then ((ident_Is.f x112002 (rdOf ByteArray.empty x17 x19)).bind fun t113 => (if t113 = true then (some (x19, wrap64 (x1 + 1))) else (value_Keyword.l0 k x1 x17 x18 (wrap64 (x19 + 1)) x112000 x112001 x112002 x112003))) else (none)) else (none)) else (some ((-1), x1))
def value_Keyword.f (k : Nat) (l0 : List (S43)) (a1 : Int) (l2 : List ByteArray) : Option (Int × Int) := (value_word.f l0 a1).bind fun bt107 => (if bt107.1 = 1 then (value_Keyword.l0 k a1 l2 (l2.length : Int) 0 bt107.1 bt107.2.1 bt107.2.2.1 bt107.2.2.2) else (some ((-1), a1)))
theorem value_Keyword.mono_l : ∀ k, (∀ y0 y1 y2 y3 y4 y5 y6 y7, LeO (value_Keyword.l0 k y0 y1 y2 y3 y4 y5 y6 y7) (value_Keyword.l0 (k + 1) y0 y1 y2 y3 y4 y5 y6 y7))
 | 0 => fun _ _ _ _ _ _ _ _ r h => by simp [value_Keyword.l0] at h
 | k + 1 => by
  have ih0 := value_Keyword.mono_l k; intro y0 y1 y2 y3 y4 y5 y6 y7; unfold value_Keyword.l0; repeat' first
  | (with_reducible exact ih0 _ _ _ _ _ _ _ _)
  | (with_reducible first | exact LeO.refl _ | exact LeO.none _ | refine LeO.ite ?_ ?_ | refine LeO.bind ?_ (fun _ => ?_))
theorem value_Keyword.mono : ∀ a0 a1 a2 k, LeO (value_Keyword.f k a0 a1 a2) (value_Keyword.f (k + 1) a0 a1 a2) := by
 intro a0 a1 a2 k; have ih0 := value_Keyword.mono_l k; unfold value_Keyword.f; repeat' first
   | (with_reducible exact ih0 _ _ _ _ _ _ _ _)
   | (with_reducible first | exact LeO.refl _ | exact LeO.none _ | refine LeO.ite ?_ ?_ | refine LeO.bind ?_ (fun _ => ?_))
set_option maxHeartbeats 8000000 in
theorem value_Keyword.calls (k : Nat) (A0 : Option Addr) (c0 : Nat) (l0 : List (S43)) (a1 : Int) (A2 : Option Addr) (c2 : Nat) (l2 : List ByteArray) (r1 : Int) (r2 : Int) (w : World) (hr0 : Kd.C k43 w A0 l0.length l0) (hc0 : l0.length ≤ c0) (hr2 : Kd.C Kd.string w A2 l2.length l2) (hc2 : l2.length ≤ c2) (h : value_Keyword.f k l0 a1 l2 = some (r1, r2)) :
  Calls Try.prog 13 #[.slice A0 l0.length c0, .int .i64 a1, .slice A2 l2.length c2] w fun e w' => e = .returned (.tuple #[.int .i64 r1, .int .i64 r2]) ∧ Below w.heap.size w w' := by
 have hu43 := Try.underlying43; have HR0 := am_ hr0; have HC0 := am_ hc0; clear hr0 hc0; have HR2 := am_ hr2; have HC2 := am_ hc2; clear hr2 hc2; have HB := am_ (Below.refl w.heap.size w); have H : ((value_word.f l0 a1).bind fun bt107 => (if bt107.1 = 1 then (value_Keyword.l0 k a1 l2 (l2.length : Int) 0 bt107.1 bt107.2.1 bt107.2.2.1 bt107.2.2.2) else (some ((-1), a1)))) = some (r1, r2) := h; clear h; replace H := bs_ H; obtain ⟨⟨t107, t108, t109, t110⟩, A40, H⟩ := H; try dsimp only at H
 have A4 := am_ A40; clear A40; by_cases c5 : t107 = 1
 ·rw [if_pos c5] at H; have c5b0 : (t107 == 1) = true := beq_iff_eq.mpr c5; have c5b1 : (t107 != 1) = false := bne_eq_false_iff_eq.mpr c5; clear c5; have H' := am_ H; clear H; go_enter Try.func13, Try.ntmps13
  go_wp2_with (first | ((with_reducible refine gate_callee (f := 28) rfl ?_); refine goesL_ (some 13) rfl rfl Try.func28 (by kernel_rfl) rfl #[.slice A0 l0.length c0, .int .i64 a1] rfl goa_ ?_; (with_reducible refine (value_word.calls _ _ l0 a1 t107 t108 t109 t110 _ ?side1 ?side2 A4.out).mono ?_); (case side1 => exact cin_); (case side2 => exact HC0.out); rintro e w6 ⟨rfl, hb⟩; refine ⟨_, rfl, ?_⟩; replace HB := am_ (below_step bel_ hb); clear hb) | ((with_reducible refine gate_dst (N := 8) rfl ?_); refine box_event ?hg (N := 8) ?hd (cs := #[.int .i64 0, .int .i64 0, .string (⟨#[]⟩ : ByteArray), .string (⟨#[]⟩ : ByteArray)]) (t := 43) ?hr ?_; (case hd => rfl); (case hg => rfl); (case hr => first | (go_simp; done) | (go_simp; rfl)); intro gb111 hg w7 hbox hb; have BK111 := am_ (hbox); have GW111 := am_ ((bsz_ hg : w.heap.size ≤ gb111)); have GE111 := am_ ((bsz_ hg : w.heap.size ≤ gb111)); replace HB := am_ (below_step bel_ hb); clear hb hbox hg; obtain ⟨hcz8_0, hcz8_1, hcz8_2, hcz8_3⟩ := c4_ BK111; obtain ⟨hfz8_0, hfz8_1, hfz8_2, hfz8_3⟩ := f4_ BK111))
  go_loopg [19] k (fun kq v19 w' => ∃ (x19_1 : Int), v19 = .int .i64 x19_1 ∧ Aside0 (value_Keyword.l0 kq a1 l2 (l2.length : Int) x19_1 t107 t108 t109 t110 = some (r1, r2)) ∧ Aside0 (kq ≤ k) ∧ Aside0 (w'.heap[gb111]? = some (.cells #[.int .i64 t107, .int .i64 t108, .string t109, .string t110] 43 (0, 0))) ∧ Aside0 (Below w.heap.size w w'))
  case atStart => exact ⟨(0), rfs_, H', ⟨Nat.le_refl _⟩, ⟨bch_⟩, ⟨bel_⟩⟩
  case round =>
   clear H'; try clear c5b0
   try clear c5b1
   try clear hcz8_0
   try clear hcz8_1
   try clear hcz8_2
   try clear hcz8_3
   try clear hfz8_0
   try clear hfz8_1
   try clear hfz8_2
   try clear hfz8_3
   obtain ⟨x19_1, rfl, HA, HK1, BK111, HB⟩ := hrel
   cases gk with
   | zero => exact absurd HA.out (by simp [value_Keyword.l0])
   | succ k1 =>
    have H := HA.out; clear HA; simp only [value_Keyword.l0] at H; by_cases c9 : x19_1 < (l2.length : Int)
    ·rw [if_pos c9] at H; have c9b0 : decide (x19_1 < (l2.length : Int)) = true := dt_ c9; clear c9; by_cases c10 : 0 ≤ x19_1
     ·rw [if_pos c10] at H; have c10b0 : decide (0 ≤ x19_1) = true := dt_ c10; clear c10; by_cases c11 : x19_1 < (l2.length : Int)
      ·rw [if_pos c11] at H; have c11b0 : decide (x19_1 < (l2.length : Int)) = true := dt_ c11; clear c11; replace H := bs_ H; obtain ⟨t113, A120, H⟩ := H; try dsimp only at H
       have A12 := am_ A120; clear A120; by_cases c13 : t113 = true
       ·subst c13; rw [if_pos rfl] at H; simp only [Option.some.injEq, Prod.mk.injEq] at H; obtain ⟨rfl, rfl⟩ := H; have p112 : 0 ≤ (x19_1 : Int) := od_ (by first | (with_reducible assumption) | assumption); have q112 : x19_1 < (l2.length : Int) := od_ (by first | (with_reducible assumption) | assumption); obtain ⟨ad112, e112, hx112_0⟩ := Kd.at_string HR2.out x19_1 p112 q112; cases e112
        replace hx112_0 := (HB.out.cell (World.block_lt_of_cell? w _ hx112_0)).trans hx112_0; replace p112 := eq_true p112; replace q112 := eq_true q112; obtain ⟨hcz14_0, hcz14_1, hcz14_2, hcz14_3⟩ := c4_ BK111; obtain ⟨hfz14_0, hfz14_1, hfz14_2, hfz14_3⟩ := f4_ BK111; go_wp2_with (first | ((with_reducible refine gate_callee (f := 18) rfl ?_); refine goesL_ (some 27) rfl rfl Try.func18 (by kernel_rfl) rfl #[.string t109, .string (rdOf ByteArray.empty l2 x19_1)] rfl goa_ ?_; (with_reducible refine (ident_Is.calls t109 (rdOf ByteArray.empty l2 x19_1) true _ A12.out).mono ?_); rintro e w15 ⟨rfl, hb⟩; refine ⟨_, rfl, ?_⟩; replace BK111 := blb_ BK111 hb; replace HB := am_ (below_step bel_ hb); clear hb))
        go_ret2
        exact ⟨rsl_, bel_⟩
       replace c13 := Bool.eq_false_iff.mpr c13; subst c13; rw [if_neg (show ¬ (false = true) by decide)] at H; have H' := am_ H; clear H; have p112 : 0 ≤ (x19_1 : Int) := od_ (by first | (with_reducible assumption) | assumption); have q112 : x19_1 < (l2.length : Int) := od_ (by first | (with_reducible assumption) | assumption); obtain ⟨ad112, e112, hx112_0⟩ := Kd.at_string HR2.out x19_1 p112 q112; cases e112
       replace hx112_0 := (HB.out.cell (World.block_lt_of_cell? w _ hx112_0)).trans hx112_0; replace p112 := eq_true p112; replace q112 := eq_true q112; obtain ⟨hcz16_0, hcz16_1, hcz16_2, hcz16_3⟩ := c4_ BK111; obtain ⟨hfz16_0, hfz16_1, hfz16_2, hfz16_3⟩ := f4_ BK111; go_wp2_with (first | ((with_reducible refine gate_callee (f := 18) rfl ?_); refine goesL_ (some 27) rfl rfl Try.func18 (by kernel_rfl) rfl #[.string t109, .string (rdOf ByteArray.empty l2 x19_1)] rfl goa_ ?_; (with_reducible refine (ident_Is.calls t109 (rdOf ByteArray.empty l2 x19_1) false _ A12.out).mono ?_); rintro e w17 ⟨rfl, hb⟩; refine ⟨_, rfl, ?_⟩; replace BK111 := blb_ BK111 hb; replace HB := am_ (below_step bel_ hb); clear hb))
       go_roundg k1
       case measure => have := HK1.out; omega
       case rel => exact ⟨(wrap64 (x19_1 + 1)), rfs_, H', ⟨by have := HK1.out; omega⟩, ⟨blk_⟩, ⟨bel_⟩⟩
      rw [if_neg c11] at H; exact absurd H (by simp)
     rw [if_neg c10] at H; exact absurd H (by simp)
    rw [if_neg c9] at H; have c9b0 : decide (x19_1 < (l2.length : Int)) = false := df_ c9; clear c9; simp only [Option.some.injEq, Prod.mk.injEq] at H; obtain ⟨rfl, rfl⟩ := H; go_wp2; go_ret2
    exact ⟨rsl_, bel_⟩
 rw [if_neg c5] at H; have c5b0 : (t107 == 1) = false := beq_eq_false_iff_ne.mpr c5; have c5b1 : (t107 != 1) = true := bne_iff_ne.mpr c5; simp only [Option.some.injEq, Prod.mk.injEq] at H; obtain ⟨rfl, rfl⟩ := H; go_enter Try.func13, Try.ntmps13
 go_wp2_with (first | ((with_reducible refine gate_callee (f := 28) rfl ?_); refine goesL_ (some 13) rfl rfl Try.func28 (by kernel_rfl) rfl #[.slice A0 l0.length c0, .int .i64 a1] rfl goa_ ?_; (with_reducible refine (value_word.calls _ _ l0 a1 t107 t108 t109 t110 _ ?side1 ?side2 A4.out).mono ?_); (case side1 => exact cin_); (case side2 => exact HC0.out); rintro e w18 ⟨rfl, hb⟩; refine ⟨_, rfl, ?_⟩; replace HB := am_ (below_step bel_ hb); clear hb) | ((with_reducible refine gate_dst (N := 8) rfl ?_); refine box_event ?hg (N := 8) ?hd (cs := #[.int .i64 0, .int .i64 0, .string (⟨#[]⟩ : ByteArray), .string (⟨#[]⟩ : ByteArray)]) (t := 43) ?hr ?_; (case hd => rfl); (case hg => rfl); (case hr => first | (go_simp; done) | (go_simp; rfl)); intro gb111 hg w19 hbox hb; have BK111 := am_ (hbox); have GW111 := am_ ((bsz_ hg : w.heap.size ≤ gb111)); have GE111 := am_ ((bsz_ hg : w.heap.size ≤ gb111)); replace HB := am_ (below_step bel_ hb); clear hb hbox hg; obtain ⟨hcz20_0, hcz20_1, hcz20_2, hcz20_3⟩ := c4_ BK111; obtain ⟨hfz20_0, hfz20_1, hfz20_2, hfz20_3⟩ := f4_ BK111))
 go_ret2
 exact ⟨rsl_, bel_⟩

/-! ### line_auto: function 14 -/
def line_auto.f  : Option (Int × Int × ByteArray) := some (1, 0, (⟨#[]⟩ : ByteArray))
set_option maxHeartbeats 8000000 in
theorem line_auto.calls  (r1 : Int) (r2 : Int) (r3 : ByteArray) (w : World) (h : line_auto.f  = some (r1, r2, r3)) :
  Calls Try.prog 14 #[] w fun e w' => e = .returned (.agg #[.int .i64 r1, .int .i64 r2, .string r3]) ∧ Below w.heap.size w w' := by
 have hu26 := Try.underlying26; have HB := am_ (Below.refl w.heap.size w); have H : (some (1, 0, (⟨#[]⟩ : ByteArray))) = some (r1, r2, r3) := h; clear h; simp only [Option.some.injEq, Prod.mk.injEq] at H; obtain ⟨rfl, rfl, rfl⟩ := H; go_enter Try.func14, Try.ntmps14
 go_wp2_with (first | ((with_reducible refine gate_dst (N := 0) rfl ?_); refine box_event ?hg (N := 0) ?hd (cs := #[.int .i64 0, .int .i64 0, .string (⟨#[]⟩ : ByteArray)]) (t := 26) ?hr ?_; (case hd => rfl); (case hg => rfl); (case hr => first | (go_simp; done) | (go_simp; rfl)); intro gb114 hg w1 hbox hb; have BK114 := am_ (hbox); have GW114 := am_ ((bsz_ hg : w.heap.size ≤ gb114)); have GE114 := am_ ((bsz_ hg : w.heap.size ≤ gb114)); replace HB := am_ (below_step bel_ hb); clear hb hbox hg; obtain ⟨hcz2_0, hcz2_1, hcz2_2⟩ := c3_ BK114; obtain ⟨hfz2_0, hfz2_1, hfz2_2⟩ := f3_ BK114))
 refine bodyPost_ret (results_cell_row rfl _ _ gb114 26 #[.int .i64 1, .int .i64 0, .string (⟨#[]⟩ : ByteArray)] (0, 0) _ rfl (bch_) Try.underlying26 rfl (by kernel_rfl)) rfl ?_
 exact ⟨rsl_, bel_⟩

/-! ### strings_Index: function 43 -/
def strings_Index.f (a0 a1 : ByteArray) : Option (Int) := if a1.size = 1 then some (Lib.indexByte a0.data.toList (a1.data.toList.headD 0)) else none
theorem strings_Index.calls (a0 a1 : ByteArray) (r : Int) (w : World) (h : strings_Index.f a0 a1 = some r) :
  Calls Try.prog 43 #[.string a0, .string a1] w fun e w' => e = .returned (.int .i64 r) ∧ Drawn0 w w' := by
 unfold strings_Index.f at h; by_cases h1 : a1.size = 1
 ·rw [if_pos h1] at h; obtain ⟨c, rfl⟩ : ∃ c, a1 = ⟨#[c]⟩ := by
   have h2 : a1.data.toList.length = 1 := by rw [Array.length_toList]; exact h1
   obtain ⟨c, hc⟩ := List.length_eq_one_iff.1 h2; refine ⟨c, Go.WideShapes.bytes_inj ?_⟩
   rw [hc]
  refine (Try.strings_Index_one a0 c w).mono ?_
  rintro e w' ⟨rfl, rfl⟩
  exact ⟨by rw [← si_ h]; rfl, Drawn0.refl _⟩
 rw [if_neg h1] at h; cases h

/-! ### strings_Contains: function 29 -/
def strings_Contains.f (a0 : ByteArray) (a1 : ByteArray) : Option (Bool) := (strings_Index.f a0 a1).bind fun t115 => (some (decide (t115 ≥ 0)))
set_option maxHeartbeats 8000000 in
theorem strings_Contains.calls (a0 : ByteArray) (a1 : ByteArray) (r : Bool) (w : World) (h : strings_Contains.f a0 a1 = some r) :
  Calls Try.prog 29 #[.string a0, .string a1] w fun e w' => e = .returned (.bool r) ∧ Drawn0 w w' := by
 have H : ((strings_Index.f a0 a1).bind fun t115 => (some (decide (t115 ≥ 0)))) = some r := h; clear h; replace H := bs_ H; obtain ⟨t115, A30, H⟩ := H; try dsimp only at H
 have A3 := am_ A30; clear A30; obtain rfl := si_ H; go_enter Try.func29, Try.ntmps29
 go_wp2_with (first | ((with_reducible refine gate_callee (f := 43) rfl ?_); refine goesL_ (some 7) rfl rfl Try.func43 (by kernel_rfl) rfl #[.string a0, .string a1] rfl goa_ ?_; (with_reducible refine (strings_Index.calls a0 a1 t115 _ A3.out).mono ?_); rintro e w' ⟨rfl, ⟨nd, rfl⟩⟩; refine ⟨_, rfl, ?_⟩))
 go_ret
 exact ⟨by first | rfl | (simp; done) | (simp [*]; done), drs_⟩

/-! ### number_isScale: function 63 -/
def number_isScale.f (a0 : Int) : Option (Bool) := if a0 = 1 then (some true) else (if a0 = 64 then (some true) else (some (a0 == 1000)))
set_option maxHeartbeats 8000000 in
theorem number_isScale.calls (a0 : Int) (r : Bool) (w : World) (h : number_isScale.f a0 = some r) :
  Calls Try.prog 63 #[.int .i64 a0] w fun e w' => e = .returned (.bool r) ∧ Drawn0 w w' := by
 have H : (if a0 = 1 then (some true) else (if a0 = 64 then (some true) else (some (a0 == 1000)))) = some r := h; clear h; by_cases c2 : a0 = 1
 ·rw [if_pos c2] at H; have c2b0 : (a0 == 1) = true := beq_iff_eq.mpr c2; have c2b1 : (a0 != 1) = false := bne_eq_false_iff_eq.mpr c2; clear c2; obtain rfl := si_ H; go_enter Try.func63, Try.ntmps63
  go_wp2; go_ret
  exact ⟨by first | rfl | (simp; done) | (simp [*]; done), drs_⟩
 rw [if_neg c2] at H; have c2b0 : (a0 == 1) = false := beq_eq_false_iff_ne.mpr c2; have c2b1 : (a0 != 1) = true := bne_iff_ne.mpr c2; by_cases c3 : a0 = 64
 ·rw [if_pos c3] at H; have c3b0 : (a0 == 64) = true := beq_iff_eq.mpr c3; have c3b1 : (a0 != 64) = false := bne_eq_false_iff_eq.mpr c3; clear c3; obtain rfl := si_ H; go_enter Try.func63, Try.ntmps63
  go_wp2; go_ret
  exact ⟨by first | rfl | (simp; done) | (simp [*]; done), drs_⟩
 rw [if_neg c3] at H; have c3b0 : (a0 == 64) = false := beq_eq_false_iff_ne.mpr c3; have c3b1 : (a0 != 64) = true := bne_iff_ne.mpr c3; obtain rfl := si_ H; go_enter Try.func63, Try.ntmps63
 go_wp2; go_ret
 exact ⟨by first | rfl | (simp; done) | (simp [*]; done), drs_⟩

/-! ### number_digit: function 88 -/
def number_digit.f (a0 : Int) : Option (Bool) := if a0 ≥ 48 then (some (decide (a0 ≤ 57))) else (some false)
set_option maxHeartbeats 8000000 in
theorem number_digit.calls (a0 : Int) (r : Bool) (w : World) (h : number_digit.f a0 = some r) :
  Calls Try.prog 88 #[.int .u8 a0] w fun e w' => e = .returned (.bool r) ∧ Drawn0 w w' := by
 have H : (if a0 ≥ 48 then (some (decide (a0 ≤ 57))) else (some false)) = some r := h; clear h; by_cases c2 : a0 ≥ 48
 ·rw [if_pos c2] at H; have c2b0 : decide (48 ≤ a0) = true := dt_ c2; clear c2; obtain rfl := si_ H; go_enter Try.func88, Try.ntmps88
  go_wp2; go_ret
  exact ⟨by first | rfl | (simp; done) | (simp [*]; done), drs_⟩
 rw [if_neg c2] at H; have c2b0 : decide (48 ≤ a0) = false := df_ c2; clear c2; obtain rfl := si_ H; go_enter Try.func88, Try.ntmps88
 go_wp2; go_ret
 exact ⟨by first | rfl | (simp; done) | (simp [*]; done), drs_⟩


/-! ### number_parts: function 64 -/
/-- Where the digits end that begin at a place (d: how many bytes there still are). -/
def number_parts.stopF (s : ByteArray) : Nat → Nat → Nat
 | 0, i => i
 | d + 1, i => if number_digit.f (bt s (i : Nat)) = some true then number_parts.stopF s d (i + 1) else i
def number_parts.stop (s : ByteArray) (i : Nat) : Nat := number_parts.stopF s (s.size - i) i
theorem number_parts.stopF_bd (s : ByteArray) : ∀ d i : Nat, i + d ≤ s.size → i ≤ number_parts.stopF s d i ∧ number_parts.stopF s d i ≤ i + d
 | 0, i, _ => ⟨Nat.le_refl _, Nat.le_refl _⟩
 | d + 1, i, h => by
  simp only [number_parts.stopF]; split
  ·have := number_parts.stopF_bd s d (i + 1) (by omega)
   omega
  omega
theorem number_parts.stop_bd (s : ByteArray) (i : Nat) (h : i ≤ s.size) : i ≤ number_parts.stop s i ∧ number_parts.stop s i ≤ s.size := by
 have := number_parts.stopF_bd s (s.size - i) i (by omega)
 unfold number_parts.stop; omega
theorem number_parts.stop_next (s : ByteArray) (i : Nat) (h : i < s.size) (hd : number_digit.f (bt s (i : Nat)) = some true) : number_parts.stop s i = number_parts.stop s (i + 1) := by
 unfold number_parts.stop; rw [show s.size - i = (s.size - (i + 1)) + 1 by omega]; simp only [number_parts.stopF]; rw [if_pos hd]
theorem number_parts.stop_here (s : ByteArray) (i : Nat) (h : i < s.size) (hd : number_digit.f (bt s (i : Nat)) ≠ some true) : number_parts.stop s i = i := by
 unfold number_parts.stop; rw [show s.size - i = (s.size - (i + 1)) + 1 by omega]; simp only [number_parts.stopF]; rw [if_neg hd]
theorem number_parts.stop_end (s : ByteArray) : number_parts.stop s s.size = s.size := by
 unfold number_parts.stop; rw [Nat.sub_self]; rfl
theorem number_parts.digit_is (c : Int) : ∃ b, number_digit.f c = some b := by
 unfold number_digit.f; split <;> exact ⟨_, rfl⟩
def number_parts.isSign (s : ByteArray) (i : Nat) : Bool := decide (i < s.size) && (bt s (i : Nat) == 43 || bt s (i : Nat) == 45)
def number_parts.sgn (s : ByteArray) (i : Nat) : Nat := if number_parts.isSign s i = true then i + 1 else i
def number_parts.neg (s : ByteArray) (i : Nat) : Bool := number_parts.isSign s i && bt s (i : Nat) == 45
def number_parts.isDot (s : ByteArray) (i : Nat) : Bool := decide (i < s.size) && bt s (i : Nat) == 46
def number_parts.isE (s : ByteArray) (i : Nat) : Bool := decide (i < s.size) && (bt s (i : Nat) == 101 || bt s (i : Nat) == 69)
/-- Where the whole digits begin and end; where those behind the point end; where the exponent's digits begin and end. -/
def number_parts.w0 (s : ByteArray) : Nat := number_parts.sgn s 0
def number_parts.w1 (s : ByteArray) : Nat := number_parts.stop s (number_parts.w0 s)
def number_parts.p1 (s : ByteArray) : Nat := if number_parts.isDot s (number_parts.w1 s) = true then number_parts.stop s (number_parts.w1 s + 1) else number_parts.w1 s
def number_parts.part (s : ByteArray) : ByteArray := if number_parts.isDot s (number_parts.w1 s) = true then s.extract (number_parts.w1 s + 1) (number_parts.p1 s) else ⟨#[]⟩
def number_parts.at2 (s : ByteArray) : Nat := if number_parts.isDot s (number_parts.w1 s) = true then (if number_parts.p1 s = number_parts.w1 s + 1 then number_parts.w1 s else number_parts.p1 s) else number_parts.w1 s
def number_parts.x0 (s : ByteArray) : Nat := number_parts.sgn s (number_parts.at2 s + 1)
def number_parts.x1 (s : ByteArray) : Nat := number_parts.stop s (number_parts.x0 s)
def number_parts.hasE (s : ByteArray) : Bool := number_parts.isE s (number_parts.at2 s) && decide (number_parts.x0 s < number_parts.x1 s)
def number_parts.f (s : ByteArray) : Option (Bool × ByteArray × ByteArray × ByteArray × Int) :=
 if s.size ≤ 140737488351232 then
  (if number_parts.w1 s = number_parts.w0 s ∧ number_parts.at2 s = number_parts.w1 s then some (false, ⟨#[]⟩, ⟨#[]⟩, ⟨#[]⟩, 0)
  else some (number_parts.neg s 0, s.extract (number_parts.w0 s) (number_parts.w1 s), number_parts.part s,
   if number_parts.hasE s = true then s.extract (number_parts.at2 s + 1) (number_parts.x1 s) else ⟨#[]⟩,
   if number_parts.hasE s = true then (number_parts.x1 s : Int) else (number_parts.at2 s : Int)))
 else none

/-- The text's block, and the block of the place. -/
structure number_parts.Two (W : World) (gs ga : Nat) (s : ByteArray) (i : Nat) : Prop where
 hs : W.heap[gs]? = some (.cells #[.string s] 9 (0, 0))
 ha : W.heap[ga]? = some (.cells #[.int .i64 i] 3 (0, 0))
 lt : gs < ga
theorem number_parts.Two.set {W : World} {gs ga : Nat} {s : ByteArray} {i : Nat} (h : number_parts.Two W gs ga s i) (j : Nat) : number_parts.Two (W.setCell ⟨ga, 0, none⟩ (.int .i64 j)) gs ga s j :=
 ⟨blk_far h.hs (show gs ≠ ga from Nat.ne_of_lt h.lt) _, blk_put h.ha 0 _ rfl, h.lt⟩
theorem number_parts.Two.drewN {W : World} {gs ga : Nat} {s : ByteArray} {i : Nat} (h : number_parts.Two W gs ga s i) (n : Nat) : number_parts.Two (W.drewN n) gs ga s i := ⟨h.hs, h.ha, h.lt⟩
theorem number_parts.lower {g : Nat} {w W : World} (h : Below g w W) (v : Value) : Below g w (W.setCell ⟨g, 0, none⟩ v) := h.trans ⟨rfl, rfl, rfl, by simp [World.setCell], fun k hk => Below.heap_setCell W _ v k (show k ≠ g by omega)⟩
theorem number_parts.belowN {B : Nat} {a w : World} (h : Below B a w) (n : Nat) : Below B a (w.drewN n) := h.trans ⟨rfl, rfl, rfl, Nat.le_refl _, fun _ _ => rfl⟩
theorem number_parts.next {i n : Nat} (h1 : i < n) (hs : n ≤ 140737488351232) : wrap64 ((i : Int) + 1) = ((i + 1 : Nat) : Int) := by
 unfold wrap64; omega

set_option maxHeartbeats 8000000 in
/-- parts' 'sign'. -/
theorem number_parts.sign_calls (s : ByteArray) (gs ga i : Nat) (w : World) (hs : s.size ≤ 140737488351232) (hi : i ≤ s.size) (h2 : number_parts.Two w gs ga s i) :
  Calls Try.prog 86 #[.pointer (some ⟨ga, 0, none⟩), .pointer (some ⟨gs, 0, none⟩)] w fun e w' => e = .returned (.bool (number_parts.neg s i)) ∧ Below ga w w' ∧ number_parts.Two w' gs ga s (number_parts.sgn s i) := by
 have H2 := am_ h2; have HN := am_ hs; have hcs : w.cell? ⟨gs, 0, none⟩ = some (.string s) := (blk_cell h2.hs 0).trans rfl; have hca : w.cell? ⟨ga, 0, none⟩ = some (.int .i64 i) := (blk_cell h2.ha 0).trans rfl; have hfa := blk_frozen h2.ha 0; have hne : gs ≠ ga := Nat.ne_of_lt h2.lt; have hne2 : ga ≠ gs := Nat.ne_of_gt h2.lt; clear h2; by_cases hlt : i < s.size
 ·have q0 : (0 ≤ (i : Int)) = True := eq_true (by omega); have q1 : ((i : Int) < (s.size : Int)) = True := eq_true (by omega); have q2 : decide ((i : Int) < (s.size : Int)) = true := dt_ (by omega); have q3 : decide (i < s.size) = true := dt_ hlt; have q4 : (i < s.size) = True := eq_true hlt; have hx : ∀ h : i < s.size, ((s[i].toNat : Nat) : Int) = bt s (i : Nat) := fun h => bt_at s (i : Int) (by simpa using h)
  have hw : wrap64 ((i : Int) + 1) = ((i + 1 : Nat) : Int) := number_parts.next hlt hs; have hw2 : wrap64 (i : Int) = (i : Int) := by unfold wrap64; omega
  have HLT := am_ hlt; have hb : ∃ b1 b2 : Bool, (bt s (i : Nat) == 43) = b1 ∧ (bt s (i : Nat) == 45) = b2 ∧ number_parts.isSign s i = (b1 || b2) := ⟨_, _, rfl, rfl, by unfold number_parts.isSign; rw [dt_ hlt]; rfl⟩
  obtain ⟨b1, b2, p1, p2, hS⟩ := hb; have hE : number_parts.neg s i = ((b1 || b2) && b2) := by unfold number_parts.neg; rw [hS, p2]
  have hG : number_parts.sgn s i = if (b1 || b2) = true then i + 1 else i := by unfold number_parts.sgn; rw [hS]
  rw [hE, hG]; clear hE hG hS hlt hi hs; have HP : (b1 = true ∧ b2 = true) ∨ (b1 = true ∧ b2 = false) ∨ (b1 = false ∧ b2 = true) ∨ (b1 = false ∧ b2 = false) := by cases b1 <;> cases b2 <;> simp
  rcases HP with ⟨rfl, rfl⟩ | ⟨rfl, rfl⟩ | ⟨rfl, rfl⟩ | ⟨rfl, rfl⟩
  all_goals
   go_enter Try.func86, Try.ntmps86
   go_wp2; go_ret
   refine ⟨rfl, by repeat (first | exact Below.refl _ _ | apply number_parts.belowN | apply number_parts.lower), ?_⟩
  all_goals
   repeat (first | exact H2.out | apply number_parts.Two.drewN | apply number_parts.Two.set)
 have hie : i = s.size := by omega
 subst hie; have hE : number_parts.neg s s.size = false := by unfold number_parts.neg number_parts.isSign; rw [df_ hlt]; rfl
 have hG : number_parts.sgn s s.size = s.size := by unfold number_parts.sgn number_parts.isSign; rw [df_ hlt]; rfl
 rw [hE, hG]; have q2 : decide ((s.size : Int) < (s.size : Int)) = false := df_ (by omega); have q3 : decide (s.size < s.size) = false := df_ (by omega); clear hE hG hlt hi; go_enter Try.func86, Try.ntmps86
 go_wp2; go_ret
 exact ⟨rfl, by repeat (first | exact Below.refl _ _ | apply number_parts.belowN | apply number_parts.lower), by repeat (first | exact H2.out | apply number_parts.Two.drewN | apply number_parts.Two.set)⟩

theorem number_parts.less {W W' : World} {gs ga j : Nat} {s : ByteArray} (h : number_parts.Two W gs ga s j) (h' : number_parts.Two W' gs ga s (j + 1)) (hj : j < s.size) : s.size - (intOf ((W'.cell? ⟨ga, 0, none⟩).getD undef)).toNat < s.size - (intOf ((W.cell? ⟨ga, 0, none⟩).getD undef)).toNat := by
 rw [show W.cell? ⟨ga, 0, none⟩ = some (.int .i64 j) from (blk_cell h.ha 0).trans rfl, show W'.cell? ⟨ga, 0, none⟩ = some (.int .i64 (j + 1 : Nat)) from (blk_cell h'.ha 0).trans rfl]; show s.size - (((j + 1 : Nat) : Int)).toNat < s.size - ((j : Int)).toNat
 rw [Int.toNat_natCast, Int.toNat_natCast]; omega
set_option maxHeartbeats 8000000 in
/-- parts' 'digits'. -/
theorem number_parts.digits_calls (s : ByteArray) (gs ga i : Nat) (w : World) (hs : s.size ≤ 140737488351232) (hi : i ≤ s.size) (h2 : number_parts.Two w gs ga s i) :
  Calls Try.prog 87 #[.pointer (some ⟨ga, 0, none⟩), .pointer (some ⟨gs, 0, none⟩)] w fun e w' => e = .returned (.string (s.extract i (number_parts.stop s i))) ∧ Below ga w w' ∧ number_parts.Two w' gs ga s (number_parts.stop s i) := by
 have HN := am_ hs; have HI := am_ hi; have H2 := am_ h2; have hca : w.cell? ⟨ga, 0, none⟩ = some (.int .i64 i) := (blk_cell h2.ha 0).trans rfl; clear h2 hs hi; go_enter Try.func87, Try.ntmps87
 go_wp2; go_loopw [] (fun wr => ∃ (j : Nat), Aside0 (i ≤ j ∧ j ≤ s.size ∧ number_parts.stop s i = number_parts.stop s j) ∧ Aside0 (number_parts.Two wr gs ga s j) ∧ Aside0 (Below ga w wr)) (fun wr => s.size - (intOf ((wr.cell? ⟨ga, 0, none⟩).getD undef)).toNat)
 case atStart => exact ⟨i, ⟨Nat.le_refl _, HI.out, rfl⟩, H2, ⟨Below.refl _ _⟩⟩
 case round =>
  clear hca; obtain ⟨j, HJ, HT, HB⟩ := hrel; have hcs : wr.cell? ⟨gs, 0, none⟩ = some (.string s) := (blk_cell HT.out.hs 0).trans rfl; have hca : wr.cell? ⟨ga, 0, none⟩ = some (.int .i64 j) := (blk_cell HT.out.ha 0).trans rfl; have hfa := blk_frozen HT.out.ha 0; have hne : gs ≠ ga := Nat.ne_of_lt HT.out.lt; have hne2 : ga ≠ gs := Nat.ne_of_gt HT.out.lt; by_cases hlt : j < s.size
  ·have q0 : (0 ≤ (j : Int)) = True := eq_true (by omega); have q1 : ((j : Int) < (s.size : Int)) = True := eq_true (by omega); have q2 : decide ((j : Int) < (s.size : Int)) = true := dt_ (by omega); have q3 : decide (j < s.size) = true := dt_ hlt; have q4 : (j < s.size) = True := eq_true hlt; have hx : ∀ h : j < s.size, ((s[j].toNat : Nat) : Int) = bt s (j : Nat) := fun h => bt_at s (j : Int) (by simpa using h)
   have hw : wrap64 ((j : Int) + 1) = ((j + 1 : Nat) : Int) := number_parts.next hlt HN.out; have HLT := am_ hlt; obtain ⟨b, hb⟩ := number_parts.digit_is (bt s (j : Nat)); have HD := am_ hb; clear hb hlt
   cases b with
   | true =>
    go_wp2_with (first | (go_at_call 88; refine (number_digit.calls _ _ _ HD.out).mono ?_; rintro e w5 ⟨rfl, ⟨nd, rfl⟩⟩))
    go_roundw
    case rel => exact ⟨j + 1, ⟨by have := HJ.out.1; omega, HLT.out, HJ.out.2.2.trans (number_parts.stop_next s j HLT.out HD.out)⟩, ⟨by repeat (first | exact HT.out | apply number_parts.Two.drewN | apply number_parts.Two.set)⟩, ⟨by repeat (first | exact HB.out | apply number_parts.belowN | apply number_parts.lower)⟩⟩
    case measure => exact number_parts.less HT.out (by repeat (first | exact HT.out | apply number_parts.Two.drewN | apply number_parts.Two.set)) HLT.out
   | false =>
    have hst := number_parts.stop_here s j HLT.out (by rw [HD.out]; simp); have hE : number_parts.stop s i = j := HJ.out.2.2.trans hst; have e1 : (0 ≤ (i : Int)) = True := eq_true (by omega); have e2 : ((i : Int) ≤ (j : Int)) = True := eq_true (by have := HJ.out.1; omega); have e3 : ((j : Int) ≤ (s.size : Int)) = True := eq_true (by have := HJ.out.2.1; omega); have e4 : (i ≤ j) = True := eq_true HJ.out.1; have e5 : (j ≤ s.size) = True := eq_true HJ.out.2.1; have e6 : decide (i ≤ j) = true := dt_ HJ.out.1; have e7 : decide (j ≤ s.size) = true := dt_ HJ.out.2.1; have HE := am_ hE; clear hst hE; go_wp2_with (first | (go_at_call 88; refine (number_digit.calls _ _ _ HD.out).mono ?_; rintro e w5 ⟨rfl, ⟨nd, rfl⟩⟩))
    go_ret
    rw [HE.out]; exact ⟨rfl, by repeat (first | exact HB.out | apply number_parts.belowN | apply number_parts.lower), by repeat (first | exact HT.out | apply number_parts.Two.drewN | apply number_parts.Two.set)⟩
  have hie : j = s.size := by have := HJ.out.2.1; omega
  subst hie; have hE : number_parts.stop s i = s.size := HJ.out.2.2.trans (number_parts.stop_end s); have q2 : decide ((s.size : Int) < (s.size : Int)) = false := df_ (by omega); have q3 : decide (s.size < s.size) = false := df_ (by omega); have e1 : (0 ≤ (i : Int)) = True := eq_true (by omega); have e2 : ((i : Int) ≤ (s.size : Int)) = True := eq_true (by have := HJ.out.1; omega); have e4 : (i ≤ s.size) = True := eq_true HJ.out.1; have e6 : decide (i ≤ s.size) = true := dt_ HJ.out.1; have HE := am_ hE; clear hE hlt; go_wp2; go_ret
  rw [HE.out]; exact ⟨rfl, by repeat (first | exact HB.out | apply number_parts.belowN | apply number_parts.lower), by repeat (first | exact HT.out | apply number_parts.Two.drewN | apply number_parts.Two.set)⟩

/-- The three blocks: the text's, the parts', the place's. -/
structure number_parts.St (w W : World) (gs gt ga : Nat) (s : ByteArray) (c : Array Value) (i : Nat) : Prop where
 b : Below w.heap.size w W
 two : number_parts.Two W gs ga s i
 ht : W.heap[gt]? = some (.cells c 93 (0, 0))
 lo : w.heap.size ≤ gs
 o1 : gs < gt
 o2 : gt < ga
theorem number_parts.St.drewN {w W : World} {gs gt ga : Nat} {s : ByteArray} {c : Array Value} {i : Nat} (h : number_parts.St w W gs gt ga s c i) (n : Nat) : number_parts.St w (W.drewN n) gs gt ga s c i :=
 ⟨number_parts.belowN h.b n, h.two.drewN n, h.ht, h.lo, h.o1, h.o2⟩
theorem number_parts.St.setA {w W : World} {gs gt ga : Nat} {s : ByteArray} {c : Array Value} {i : Nat} (h : number_parts.St w W gs gt ga s c i) (j : Nat) : number_parts.St w (W.setCell ⟨ga, 0, none⟩ (.int .i64 j)) gs gt ga s c j :=
 ⟨below_set h.b (Nat.le_trans h.lo (Nat.le_of_lt (Nat.lt_trans h.o1 h.o2))), h.two.set j, blk_far h.ht (show gt ≠ ga from Nat.ne_of_lt h.o2) _, h.lo, h.o1, h.o2⟩
theorem number_parts.St.setT {w W : World} {gs gt ga : Nat} {s : ByteArray} {c : Array Value} {i : Nat} (h : number_parts.St w W gs gt ga s c i) (k : Nat) (v : Value) (c' : Array Value) (e : c.setIfInBounds k v = c') : number_parts.St w (W.setCell ⟨gt, k, none⟩ v) gs gt ga s c' i :=
 ⟨below_set h.b (Nat.le_trans h.lo (Nat.le_of_lt h.o1)), ⟨blk_far h.two.hs (show gs ≠ gt from Nat.ne_of_lt h.o1) _, blk_far h.two.ha (show ga ≠ gt from Nat.ne_of_gt h.o2) _, h.two.lt⟩, blk_put h.ht k v e, h.lo, h.o1, h.o2⟩
theorem number_parts.St.call {w W W' : World} {gs gt ga : Nat} {s : ByteArray} {c : Array Value} {i j : Nat} (h : number_parts.St w W gs gt ga s c i) (hb : Below ga W W') (h2 : number_parts.Two W' gs ga s j) : number_parts.St w W' gs gt ga s c j :=
 ⟨h.b.trans ⟨hb.os, hb.tape, hb.output, hb.size, fun k hk => hb.block k (by have := h.lo; have := h.o1; have := h.o2; omega)⟩, h2, (hb.block gt h.o2).trans h.ht, h.lo, h.o1, h.o2⟩
theorem number_parts.sign_st {w W : World} {gs gt ga : Nat} {s : ByteArray} {c : Array Value} {i : Nat} (h : number_parts.St w W gs gt ga s c i) (j : Nat) (b : Bool) (hs : s.size ≤ 140737488351232) (hi : i ≤ s.size) (hj : number_parts.sgn s i = j) (hb : number_parts.neg s i = b) :
  Calls Try.prog 86 #[.pointer (some ⟨ga, 0, none⟩), .pointer (some ⟨gs, 0, none⟩)] W fun e w' => e = .returned (.bool b) ∧ number_parts.St w w' gs gt ga s c j :=
 (number_parts.sign_calls s gs ga i W hs hi h.two).mono fun e w' ⟨h1, h2, h3⟩ => ⟨hb ▸ h1, h.call h2 (hj ▸ h3)⟩
theorem number_parts.digits_st {w W : World} {gs gt ga : Nat} {s : ByteArray} {c : Array Value} {i : Nat} (h : number_parts.St w W gs gt ga s c i) (j : Nat) (r : ByteArray) (hs : s.size ≤ 140737488351232) (hi : i ≤ s.size) (hj : number_parts.stop s i = j) (hr : s.extract i j = r) :
  Calls Try.prog 87 #[.pointer (some ⟨ga, 0, none⟩), .pointer (some ⟨gs, 0, none⟩)] W fun e w' => e = .returned (.string r) ∧ number_parts.St w w' gs gt ga s c j :=
 (number_parts.digits_calls s gs ga i W hs hi h.two).mono fun e w' ⟨h1, h2, h3⟩ => ⟨hr ▸ hj ▸ h1, h.call h2 (hj ▸ h3)⟩

/-- What is known of a place within the text, and of one at its end. -/
theorem number_parts.at_in {s : ByteArray} {i : Nat} (h : i < s.size) : (0 ≤ (i : Int)) = True ∧ ((i : Int) < (s.size : Int)) = True ∧ decide ((i : Int) < (s.size : Int)) = true ∧ decide (i < s.size) = true ∧ (i < s.size) = True ∧ (∀ h : i < s.size, ((s[i].toNat : Nat) : Int) = bt s (i : Nat)) :=
 ⟨eq_true (by omega), eq_true (by omega), dt_ (by omega), dt_ h, eq_true h, fun h => bt_at s (i : Int) (by simpa using h)⟩
theorem number_parts.at_out {s : ByteArray} {i : Nat} (h : ¬ i < s.size) : decide ((i : Int) < (s.size : Int)) = false ∧ decide (i < s.size) = false := ⟨df_ (by omega), df_ h⟩
theorem number_parts.empty_is (r : ByteArray) : (r.toList == ([] : List UInt8)) = decide (r.size = 0) := by
 rw [ByteArray.toList_eq]; by_cases h : r.size = 0
 ·rw [dt_ h, Array.eq_empty_of_size_eq_zero (xs := r.data) h]; rfl
 rw [df_ h, beq_eq_false_iff_ne]; intro e; apply h
 have := congrArg List.length e
 simpa using this
theorem number_parts.cut_empty {s : ByteArray} {i j : Nat} (h1 : i ≤ j) (h2 : j ≤ s.size) : ((s.extract i j).toList == ([] : List UInt8)) = decide (i = j) := by
 rw [number_parts.empty_is, ByteArray.size_extract]; congr 1
 exact propext ⟨fun h => by omega, fun h => by omega⟩

/-- How it goes behind the whole digits (p: the part's digits; a2: the place behind them). -/
def number_parts.DotWay (s : ByteArray) (a1 b1 p1 a2 : Nat) (p : ByteArray) : Prop :=
 (¬ a1 < s.size ∧ p = ⟨#[]⟩ ∧ a2 = a1) ∨ (a1 < s.size ∧ (bt s (a1 : Nat) == 46) = false ∧ p = ⟨#[]⟩ ∧ a2 = a1) ∨
  (a1 < s.size ∧ (bt s (a1 : Nat) == 46) = true ∧ p1 = b1 ∧ (p.toList == ([] : List UInt8)) = true ∧ p = s.extract b1 p1 ∧ a2 = a1) ∨ (a1 < s.size ∧ (bt s (a1 : Nat) == 46) = true ∧ b1 < p1 ∧ (p.toList == ([] : List UInt8)) = false ∧ p = s.extract b1 p1 ∧ a2 = p1)
theorem number_parts.sgn_bd (s : ByteArray) (i : Nat) (h : i ≤ s.size) : i ≤ number_parts.sgn s i ∧ number_parts.sgn s i ≤ s.size ∧ number_parts.sgn s i ≤ i + 1 := by
 unfold number_parts.sgn; split
 ·rename_i h2
  unfold number_parts.isSign at h2; have := od_ (Bool.and_eq_true_iff.1 h2).1
  omega
 omega
theorem number_parts.dot_way (s : ByteArray) (h : number_parts.w1 s ≤ s.size) : number_parts.DotWay s (number_parts.w1 s) (number_parts.w1 s + 1) (number_parts.stop s (number_parts.w1 s + 1)) (number_parts.at2 s) (number_parts.part s) := by
 unfold number_parts.DotWay number_parts.at2 number_parts.part number_parts.p1; cases hd : number_parts.isDot s (number_parts.w1 s)
 ·rw [if_neg (by decide), if_neg (by decide)]; unfold number_parts.isDot at hd; by_cases hl : number_parts.w1 s < s.size
  ·rw [dt_ hl] at hd; exact .inr (.inl ⟨hl, hd, rfl, rfl⟩)
  exact .inl ⟨hl, rfl, rfl⟩
 rw [if_pos rfl, if_pos rfl]; unfold number_parts.isDot at hd; obtain ⟨h1, h2⟩ := Bool.and_eq_true_iff.1 hd; have h1 := od_ h1; have h3 := number_parts.stop_bd s (number_parts.w1 s + 1) h1; rw [if_pos rfl]; by_cases he : number_parts.stop s (number_parts.w1 s + 1) = number_parts.w1 s + 1
 ·rw [if_pos he]; exact .inr (.inr (.inl ⟨h1, h2, he, by rw [number_parts.cut_empty h3.1 h3.2, dt_ he.symm], rfl, rfl⟩))
 rw [if_neg he]; exact .inr (.inr (.inr ⟨h1, h2, by omega, by rw [number_parts.cut_empty h3.1 h3.2, df_ (fun e => he e.symm)], rfl, rfl⟩))

/-- How it goes behind the digits (x: the exponent's text; en: where the number ends). -/
def number_parts.ExpWay (s : ByteArray) (a2 b2 x0 x1 : Nat) (y x : ByteArray) (en : Nat) : Prop :=
 (¬ a2 < s.size ∧ x = ⟨#[]⟩ ∧ a2 = en) ∨ (a2 < s.size ∧ (bt s (a2 : Nat) == 101) = false ∧ (bt s (a2 : Nat) == 69) = false ∧ x = ⟨#[]⟩ ∧ a2 = en) ∨
  (a2 < s.size ∧ ((bt s (a2 : Nat) == 101) = true ∨ (bt s (a2 : Nat) == 101) = false ∧ (bt s (a2 : Nat) == 69) = true) ∧ (y.toList == ([] : List UInt8)) = true ∧ x = ⟨#[]⟩ ∧ a2 = en) ∨
  (a2 < s.size ∧ ((bt s (a2 : Nat) == 101) = true ∨ (bt s (a2 : Nat) == 101) = false ∧ (bt s (a2 : Nat) == 69) = true) ∧ (y.toList == ([] : List UInt8)) = false ∧ x = s.extract b2 x1 ∧ x1 = en)
theorem number_parts.exp_way (s : ByteArray) (h : number_parts.at2 s ≤ s.size) : number_parts.ExpWay s (number_parts.at2 s) (number_parts.at2 s + 1) (number_parts.x0 s) (number_parts.x1 s) (s.extract (number_parts.x0 s) (number_parts.x1 s))
  (if number_parts.hasE s = true then s.extract (number_parts.at2 s + 1) (number_parts.x1 s) else ⟨#[]⟩) (if number_parts.hasE s = true then number_parts.x1 s else number_parts.at2 s) := by
 unfold number_parts.ExpWay number_parts.hasE; by_cases hl : number_parts.at2 s < s.size
 ·have hx0 := number_parts.sgn_bd s (number_parts.at2 s + 1) hl; have hx1 := number_parts.stop_bd s (number_parts.x0 s) hx0.2.1; have hem := number_parts.cut_empty (s := s) hx1.1 hx1.2; cases hE : number_parts.isE s (number_parts.at2 s)
  ·unfold number_parts.isE at hE; rw [dt_ hl] at hE; have := Bool.or_eq_false_iff.1 hE
   exact .inr (.inl ⟨hl, this.1, this.2, rfl, rfl⟩)
  unfold number_parts.isE at hE; rw [dt_ hl] at hE; have h3 : (bt s (number_parts.at2 s : Nat) == 101) = true ∨ (bt s (number_parts.at2 s : Nat) == 101) = false ∧ (bt s (number_parts.at2 s : Nat) == 69) = true := by
   cases h4 : bt s (number_parts.at2 s : Nat) == 101
   ·rw [h4] at hE; exact .inr ⟨rfl, hE⟩
   exact .inl rfl
  by_cases h5 : number_parts.x0 s < number_parts.x1 s
  ·rw [dt_ h5]; exact .inr (.inr (.inr ⟨hl, h3, by rw [show number_parts.x1 s = number_parts.stop s (number_parts.x0 s) from rfl] at h5 ⊢; rw [hem, df_ (by omega)], rfl, rfl⟩))
  rw [df_ h5]; exact .inr (.inr (.inl ⟨hl, h3, by rw [show number_parts.x1 s = number_parts.stop s (number_parts.x0 s) from rfl] at h5 ⊢; rw [hem, dt_ (by have := hx1.1; omega)], rfl, rfl⟩))
 have : number_parts.isE s (number_parts.at2 s) = false := by unfold number_parts.isE; rw [df_ hl]; rfl
 rw [this]; exact .inl ⟨hl, rfl, rfl⟩

theorem number_parts.wr1 {i n : Nat} (h : i ≤ n) (hs : n ≤ 140737488351232) : wrap64 ((i : Int) + 1) = ((i + 1 : Nat) : Int) := by
 unfold wrap64; omega
theorem number_parts.wr2 {i n : Nat} (h : i ≤ n) (hs : n ≤ 140737488351232) : wrap64 (((i + 1 : Nat) : Int) - 1) = (i : Int) := by
 unfold wrap64; omega
theorem number_parts.St.drew {w W : World} {gs gt ga : Nat} {s : ByteArray} {c : Array Value} {i : Nat} (h : number_parts.St w W gs gt ga s c i) : number_parts.St w W.drew gs gt ga s c i :=
 ⟨below_drew1 h.b, ⟨blk_drew h.two.hs, blk_drew h.two.ha, h.two.lt⟩, blk_drew h.ht, h.lo, h.o1, h.o2⟩
theorem number_parts.St.setA0 {w W : World} {gs gt ga : Nat} {s : ByteArray} {c : Array Value} {i : Nat} (h : number_parts.St w W gs gt ga s c i) : number_parts.St w (W.setCell ⟨ga, 0, none⟩ (.int .i64 0)) gs gt ga s c 0 := h.setA 0
theorem number_parts.St.start {w w1 w2 w3 : World} {gs gt ga : Nat} {s : ByteArray} {c : Array Value} (k1 : gs = w.heap.size) (k2 : w1.heap[gs]? = some (.cells #[.string s] 9 (0, 0))) (k3 : Below w.heap.size w w1)
  (m1 : gt = w1.heap.size) (m2 : w2.heap[gt]? = some (.cells c 93 (0, 0))) (m3 : Below w1.heap.size w1 w2) (l1 : ga = w2.heap.size) (l2 : w3.heap[ga]? = some (.cells #[.int .i64 0] 3 (0, 0))) (l3 : Below w2.heap.size w2 w3) : number_parts.St w w3 gs gt ga s c 0 := by
 have a1 := blk_lt k2; have a2 := blk_lt m2; have a3 := m3.size; exact ⟨below_step (below_step k3 m3) l3, ⟨blk_below (blk_below k2 m3) l3, l2, by omega⟩, blk_below m2 l3, by omega, by omega, by omega⟩

set_option maxHeartbeats 40000000 in
theorem number_parts.walk (s sw p y x : ByteArray) (ng q : Bool) (a0 a1 b1 p1 a2 b2 x0 x1 en : Nat) (w : World) (hs : s.size ≤ 140737488351232)
  (h0 : number_parts.sgn s 0 = a0) (hn : number_parts.neg s 0 = ng) (h0b : a0 ≤ s.size) (h1 : number_parts.stop s a0 = a1) (h1b : a1 ≤ s.size) (hsw : s.extract a0 a1 = sw) (hb1 : b1 = a1 + 1)
  (hD : number_parts.DotWay s a1 b1 p1 a2 p) (hp1 : a1 < s.size → number_parts.stop s b1 = p1) (h2b : a2 ≤ s.size) (hb2 : b2 = a2 + 1)
  (hZ : ((sw.toList == ([] : List UInt8)) && (p.toList == ([] : List UInt8))) = false)
  (hE : number_parts.ExpWay s a2 b2 x0 x1 y x en) (hx0 : a2 < s.size → number_parts.sgn s b2 = x0) (hq : number_parts.neg s b2 = q) (hx0b : a2 < s.size → x0 ≤ s.size) (hx1 : a2 < s.size → number_parts.stop s x0 = x1) (hy : s.extract x0 x1 = y) (hx1b : a2 < s.size → b2 ≤ x1 ∧ x1 ≤ s.size) :
  Calls Try.prog 64 #[.string s] w fun e w' => e = .returned (.agg #[.bool ng, .string sw, .string p, .string x, .int .i64 en]) ∧ Below w.heap.size w w' := by
 have hu := Try.underlying93; have HB1 : Aside0 (a1 < s.size → b1 ≤ s.size) := ⟨fun h => by omega⟩
 have HB2 : Aside0 (a2 < s.size → b2 ≤ s.size) := ⟨fun h => by omega⟩
 have HN := am_ hs; have H0 := am_ h0; have HNG := am_ hn; have H0b := am_ h0b; have H1 := am_ h1; have HSW := am_ hsw; have HQ := am_ hq; have HY := am_ hy; have hW1 : wrap64 ((a1 : Int) + 1) = (b1 : Int) := by rw [hb1]; exact number_parts.wr1 h1b hs
 have hW2 : wrap64 ((b1 : Int) - 1) = (a1 : Int) := by rw [hb1]; exact number_parts.wr2 h1b hs
 have hW3 : wrap64 ((a2 : Int) + 1) = (b2 : Int) := by rw [hb2]; exact number_parts.wr1 h2b hs
 have HP1 := am_ hp1; have HX0 := am_ hx0; have HX0b := am_ hx0b; have HX1 := am_ hx1; have HX1b := am_ hx1b; clear hs h0 hn h0b h1 hsw hq hy hb1 hb2 hp1 hx0 hx0b hx1 hx1b h1b h2b; have HD : (∃ bw bp : Bool, (sw.toList == ([] : List UInt8)) = bw ∧ (p.toList == ([] : List UInt8)) = bp) := ⟨_, _, rfl, rfl⟩
 obtain ⟨bw, bp, hbw, hbp⟩ := HD; rw [hbw, hbp] at hZ; have hbw1 : (sw.toList != ([] : List UInt8)) = !bw := by rw [← hbw]; rfl
 have hbp1 : (p.toList != ([] : List UInt8)) = !bp := by rw [← hbp]; rfl
 obtain ⟨bd, hbd⟩ : ∃ bd : Bool, bd = number_parts.isDot s a1 := ⟨_, rfl⟩
 obtain ⟨be, hbe⟩ : ∃ be : Bool, be = number_parts.isE s a2 := ⟨_, rfl⟩
 have HBD := am_ hbd; have HBE := am_ hbe; have HD := am_ hD; have HE := am_ hE; clear hbd hbe hD hE; go_enter Try.func64, Try.ntmps64
 go_upto_region 6 with (first | ((with_reducible refine gate_dst (N := 1) rfl ?_); (try (refine gate_guard (by rfl) ?_; dsimp only)); refine box_event ?hg (N := 1) ?hd (cs := #[.string s]) (t := 9) ?hr ?_; (case hd => rfl); (case hg => rfl); (case hr => first | (go_simp; done) | (go_simp; rfl)); intro gs hg w1 hbox hb; have KB1 := am_ hb; have KS1 := am_ hbox; have KG1 := am_ hg; clear hg hbox hb) | ((with_reducible refine gate_dst (N := 2) rfl ?_); (try (refine gate_guard (by rfl) ?_; dsimp only)); refine box_event ?hg (N := 2) ?hd (cs := #[.bool false, .string (⟨#[]⟩ : ByteArray), .string (⟨#[]⟩ : ByteArray), .string (⟨#[]⟩ : ByteArray), .int .i64 0]) (t := 93) ?hr ?_; (case hd => rfl); (case hg => rfl); (case hr => first | (go_simp; done) | (go_simp; rfl)); intro gt hg w2 hbox hb; have KB2 := am_ hb; have KS2 := am_ hbox; have KG2 := am_ hg; clear hg hbox hb) | ((with_reducible refine gate_dst (N := 3) rfl ?_); (try (refine gate_guard (by rfl) ?_; dsimp only)); refine box_event ?hg (N := 3) ?hd (cs := #[.int .i64 0]) (t := 3) ?hr ?_; (case hd => rfl); (case hg => rfl); (case hr => first | (go_simp; done) | (go_simp; rfl)); intro ga hg w3 hbox hb; have KB3 := am_ hb; have KS3 := am_ hbox; have KG3 := am_ hg; clear hg hbox hb; have HP := am_ (number_parts.St.start KG1.out KS1.out KB1.out KG2.out KS2.out KB2.out KG3.out KS3.out KB3.out); have n1 : gs ≠ gt := Nat.ne_of_lt HP.out.o1; have n2 : gt ≠ gs := Nat.ne_of_gt HP.out.o1; have n3 : gt ≠ ga := Nat.ne_of_lt HP.out.o2; have n4 : ga ≠ gt := Nat.ne_of_gt HP.out.o2; have n5 : gs ≠ ga := Nat.ne_of_lt HP.out.two.lt; have n6 : ga ≠ gs := Nat.ne_of_gt HP.out.two.lt; have hcs : w3.cell? ⟨gs, 0, none⟩ = some (.string s) := (blk_cell HP.out.two.hs 0).trans rfl; have hca : w3.cell? ⟨ga, 0, none⟩ = some (.int .i64 0) := (blk_cell HP.out.two.ha 0).trans rfl; have hfa := blk_frozen HP.out.two.ha 0; have ht0 : w3.cell? ⟨gt, 0, none⟩ = some (.bool false) := (blk_cell HP.out.ht 0).trans rfl; have hf0 := blk_frozen HP.out.ht 0; have ht1 : w3.cell? ⟨gt, 1, none⟩ = some (.string (⟨#[]⟩ : ByteArray)) := (blk_cell HP.out.ht 1).trans rfl; have hf1 := blk_frozen HP.out.ht 1; have ht2 : w3.cell? ⟨gt, 2, none⟩ = some (.string (⟨#[]⟩ : ByteArray)) := (blk_cell HP.out.ht 2).trans rfl; have hf2 := blk_frozen HP.out.ht 2; have ht3 : w3.cell? ⟨gt, 3, none⟩ = some (.string (⟨#[]⟩ : ByteArray)) := (blk_cell HP.out.ht 3).trans rfl; have hf3 := blk_frozen HP.out.ht 3; have ht4 : w3.cell? ⟨gt, 4, none⟩ = some (.int .i64 0) := (blk_cell HP.out.ht 4).trans rfl; have hf4 := blk_frozen HP.out.ht 4) | (go_at_call 86; refine (number_parts.sign_st (w := w) (gt := gt) (c := #[.bool false, .string (⟨#[]⟩ : ByteArray), .string (⟨#[]⟩ : ByteArray), .string (⟨#[]⟩ : ByteArray), .int .i64 0]) (i := 0) ?st a0 ng HN.out (Nat.zero_le _) H0.out HNG.out).mono ?_; (case st => repeat (first | (with_reducible first | exact HP.out | apply number_parts.St.drewN | apply number_parts.St.drew | apply number_parts.St.setA0 | apply number_parts.St.setA | apply number_parts.St.setT) | exact (rfl : (_ : Array Value) = _))); rintro e w4 ⟨rfl, hp⟩; replace HP := am_ hp; clear hp; have hcs : w4.cell? ⟨gs, 0, none⟩ = some (.string s) := (blk_cell HP.out.two.hs 0).trans rfl; have hca : w4.cell? ⟨ga, 0, none⟩ = some (.int .i64 a0) := (blk_cell HP.out.two.ha 0).trans rfl; have hfa := blk_frozen HP.out.two.ha 0; have ht0 : w4.cell? ⟨gt, 0, none⟩ = some (.bool false) := (blk_cell HP.out.ht 0).trans rfl; have hf0 := blk_frozen HP.out.ht 0; have ht1 : w4.cell? ⟨gt, 1, none⟩ = some (.string (⟨#[]⟩ : ByteArray)) := (blk_cell HP.out.ht 1).trans rfl; have hf1 := blk_frozen HP.out.ht 1; have ht2 : w4.cell? ⟨gt, 2, none⟩ = some (.string (⟨#[]⟩ : ByteArray)) := (blk_cell HP.out.ht 2).trans rfl; have hf2 := blk_frozen HP.out.ht 2; have ht3 : w4.cell? ⟨gt, 3, none⟩ = some (.string (⟨#[]⟩ : ByteArray)) := (blk_cell HP.out.ht 3).trans rfl; have hf3 := blk_frozen HP.out.ht 3; have ht4 : w4.cell? ⟨gt, 4, none⟩ = some (.int .i64 0) := (blk_cell HP.out.ht 4).trans rfl; have hf4 := blk_frozen HP.out.ht 4) | (go_at_call 87; refine (number_parts.digits_st (w := w) (gt := gt) (c := #[.bool ng, .string (⟨#[]⟩ : ByteArray), .string (⟨#[]⟩ : ByteArray), .string (⟨#[]⟩ : ByteArray), .int .i64 0]) (i := a0) ?st a1 sw HN.out H0b.out H1.out HSW.out).mono ?_; (case st => repeat (first | (with_reducible first | exact HP.out | apply number_parts.St.drewN | apply number_parts.St.drew | apply number_parts.St.setA0 | apply number_parts.St.setA | apply number_parts.St.setT) | exact (rfl : (_ : Array Value) = _))); rintro e w5 ⟨rfl, hp⟩; replace HP := am_ hp; clear hp; have hcs : w5.cell? ⟨gs, 0, none⟩ = some (.string s) := (blk_cell HP.out.two.hs 0).trans rfl; have hca : w5.cell? ⟨ga, 0, none⟩ = some (.int .i64 a1) := (blk_cell HP.out.two.ha 0).trans rfl; have hfa := blk_frozen HP.out.two.ha 0; have ht0 : w5.cell? ⟨gt, 0, none⟩ = some (.bool ng) := (blk_cell HP.out.ht 0).trans rfl; have hf0 := blk_frozen HP.out.ht 0; have ht1 : w5.cell? ⟨gt, 1, none⟩ = some (.string (⟨#[]⟩ : ByteArray)) := (blk_cell HP.out.ht 1).trans rfl; have hf1 := blk_frozen HP.out.ht 1; have ht2 : w5.cell? ⟨gt, 2, none⟩ = some (.string (⟨#[]⟩ : ByteArray)) := (blk_cell HP.out.ht 2).trans rfl; have hf2 := blk_frozen HP.out.ht 2; have ht3 : w5.cell? ⟨gt, 3, none⟩ = some (.string (⟨#[]⟩ : ByteArray)) := (blk_cell HP.out.ht 3).trans rfl; have hf3 := blk_frozen HP.out.ht 3; have ht4 : w5.cell? ⟨gt, 4, none⟩ = some (.int .i64 0) := (blk_cell HP.out.ht 4).trans rfl; have hf4 := blk_frozen HP.out.ht 4))
 go_cut [24] (fun v24 wc => v24 = .bool bd ∧ Aside0 (number_parts.St w wc gs gt ga s #[.bool ng, .string sw, .string (⟨#[]⟩ : ByteArray), .string (⟨#[]⟩ : ByteArray), .int .i64 0] a1))
 case first =>
  by_cases d1 : a1 < s.size
  ·obtain ⟨qa, qb, qc, qd, qe, qf⟩ := number_parts.at_in d1; have d2 : bd = (bt s (a1 : Nat) == 46) := by rw [HBD.out]; unfold number_parts.isDot; rw [qd]; rfl
   have HD2 := am_ d2; clear d1 d2; go_wp2; go_meet
   case rel => exact ⟨by rw [HD2.out], ⟨by repeat (first | (with_reducible first | exact HP.out | apply number_parts.St.drewN | apply number_parts.St.drew | apply number_parts.St.setA0 | apply number_parts.St.setA | apply number_parts.St.setT) | exact (rfl : (_ : Array Value) = _))⟩⟩
  obtain ⟨qa, qb⟩ := number_parts.at_out d1; have d2 : bd = false := by rw [HBD.out]; unfold number_parts.isDot; rw [qb]; rfl
  have HD2 := am_ d2; clear d1 d2; go_wp2; go_meet
  case rel => exact ⟨by rw [HD2.out], ⟨by repeat (first | (with_reducible first | exact HP.out | apply number_parts.St.drewN | apply number_parts.St.drew | apply number_parts.St.setA0 | apply number_parts.St.setA | apply number_parts.St.setT) | exact (rfl : (_ : Array Value) = _))⟩⟩
 obtain ⟨rfl, HP⟩ := hcut; have hcs : wc.cell? ⟨gs, 0, none⟩ = some (.string s) := (blk_cell HP.out.two.hs 0).trans rfl; have hca : wc.cell? ⟨ga, 0, none⟩ = some (.int .i64 a1) := (blk_cell HP.out.two.ha 0).trans rfl; have hfa := blk_frozen HP.out.two.ha 0; have ht0 : wc.cell? ⟨gt, 0, none⟩ = some (.bool ng) := (blk_cell HP.out.ht 0).trans rfl; have hf0 := blk_frozen HP.out.ht 0; have ht1 : wc.cell? ⟨gt, 1, none⟩ = some (.string sw) := (blk_cell HP.out.ht 1).trans rfl; have hf1 := blk_frozen HP.out.ht 1; have ht2 : wc.cell? ⟨gt, 2, none⟩ = some (.string (⟨#[]⟩ : ByteArray)) := (blk_cell HP.out.ht 2).trans rfl; have hf2 := blk_frozen HP.out.ht 2; have ht3 : wc.cell? ⟨gt, 3, none⟩ = some (.string (⟨#[]⟩ : ByteArray)) := (blk_cell HP.out.ht 3).trans rfl; have hf3 := blk_frozen HP.out.ht 3; have ht4 : wc.cell? ⟨gt, 4, none⟩ = some (.int .i64 0) := (blk_cell HP.out.ht 4).trans rfl; have hf4 := blk_frozen HP.out.ht 4; go_upto_if 24 with (fail)
 go_cut [] (fun wc => Aside0 (number_parts.St w wc gs gt ga s #[.bool ng, .string sw, .string p, .string (⟨#[]⟩ : ByteArray), .int .i64 0] a2))
 case first =>
  rcases HD.out with ⟨d1, d2, d3⟩ | ⟨d1, d2, d3, d4⟩ | ⟨d1, d2, d3, d4, d5, d6⟩ | ⟨d1, d2, d3, d4, d5, d6⟩
  ·have d4 : bd = false := by rw [HBD.out]; unfold number_parts.isDot; rw [df_ d1]; rfl
   subst d4; replace d2 := am_ d2; replace d3 := am_ d3; clear d1; go_wp2; go_meet
   case rel =>
    rw [d2.out, d3.out]; exact ⟨by repeat (first | (with_reducible first | exact HP.out | apply number_parts.St.drewN | apply number_parts.St.drew | apply number_parts.St.setA0 | apply number_parts.St.setA | apply number_parts.St.setT) | exact (rfl : (_ : Array Value) = _))⟩
  ·have d5 : bd = false := by rw [HBD.out]; unfold number_parts.isDot; rw [d2, Bool.and_false]
   subst d5; replace d3 := am_ d3; replace d4 := am_ d4; clear d1 d2; go_wp2; go_meet
   case rel =>
    rw [d3.out, d4.out]; exact ⟨by repeat (first | (with_reducible first | exact HP.out | apply number_parts.St.drewN | apply number_parts.St.drew | apply number_parts.St.setA0 | apply number_parts.St.setA | apply number_parts.St.setT) | exact (rfl : (_ : Array Value) = _))⟩
  ·have HPP := am_ d5.symm; have HP2 := am_ (HP1.out d1); have HB3 := am_ (HB1.out d1); have d7 : bp = true := hbp.symm.trans d4; have d8 : bd = true := by rw [HBD.out]; unfold number_parts.isDot; rw [dt_ d1, d2]; rfl
   replace d6 := am_ d6; clear d1 d2 d4 d5 HP1 HB1; have HP1 := HP2; have HB1 := HB3; subst d7; subst d8; have d9 := d3.symm; subst d9; go_wp2_with (first | (go_at_call 87; refine (number_parts.digits_st (w := w) (gt := gt) (c := #[.bool ng, .string sw, .string (⟨#[]⟩ : ByteArray), .string (⟨#[]⟩ : ByteArray), .int .i64 0]) (i := b1) ?st b1 p HN.out HB1.out HP1.out HPP.out).mono ?_; (case st => repeat (first | (with_reducible first | exact HP.out | apply number_parts.St.drewN | apply number_parts.St.drew | apply number_parts.St.setA0 | apply number_parts.St.setA | apply number_parts.St.setT) | exact (rfl : (_ : Array Value) = _))); rintro e w6 ⟨rfl, hp⟩; replace HP := am_ hp; clear hp; have hcs : w6.cell? ⟨gs, 0, none⟩ = some (.string s) := (blk_cell HP.out.two.hs 0).trans rfl; have hca : w6.cell? ⟨ga, 0, none⟩ = some (.int .i64 b1) := (blk_cell HP.out.two.ha 0).trans rfl; have hfa := blk_frozen HP.out.two.ha 0; have ht0 : w6.cell? ⟨gt, 0, none⟩ = some (.bool ng) := (blk_cell HP.out.ht 0).trans rfl; have hf0 := blk_frozen HP.out.ht 0; have ht1 : w6.cell? ⟨gt, 1, none⟩ = some (.string sw) := (blk_cell HP.out.ht 1).trans rfl; have hf1 := blk_frozen HP.out.ht 1; have ht2 : w6.cell? ⟨gt, 2, none⟩ = some (.string (⟨#[]⟩ : ByteArray)) := (blk_cell HP.out.ht 2).trans rfl; have hf2 := blk_frozen HP.out.ht 2; have ht3 : w6.cell? ⟨gt, 3, none⟩ = some (.string (⟨#[]⟩ : ByteArray)) := (blk_cell HP.out.ht 3).trans rfl; have hf3 := blk_frozen HP.out.ht 3; have ht4 : w6.cell? ⟨gt, 4, none⟩ = some (.int .i64 0) := (blk_cell HP.out.ht 4).trans rfl; have hf4 := blk_frozen HP.out.ht 4))
   go_meet
   case rel =>
    rw [d6.out]; exact ⟨by repeat (first | (with_reducible first | exact HP.out | apply number_parts.St.drewN | apply number_parts.St.drew | apply number_parts.St.setA0 | apply number_parts.St.setA | apply number_parts.St.setT) | exact (rfl : (_ : Array Value) = _))⟩
  have HPP := am_ d5.symm; have HP2 := am_ (HP1.out d1); have HB3 := am_ (HB1.out d1); have d7 : bp = false := hbp.symm.trans d4; have d8 : bd = true := by rw [HBD.out]; unfold number_parts.isDot; rw [dt_ d1, d2]; rfl
  replace d6 := am_ d6; clear d1 d2 d3 d4 d5 HP1 HB1; have HP1 := HP2; have HB1 := HB3; subst d7; subst d8; go_wp2_with (first | (go_at_call 87; refine (number_parts.digits_st (w := w) (gt := gt) (c := #[.bool ng, .string sw, .string (⟨#[]⟩ : ByteArray), .string (⟨#[]⟩ : ByteArray), .int .i64 0]) (i := b1) ?st p1 p HN.out HB1.out HP1.out HPP.out).mono ?_; (case st => repeat (first | (with_reducible first | exact HP.out | apply number_parts.St.drewN | apply number_parts.St.drew | apply number_parts.St.setA0 | apply number_parts.St.setA | apply number_parts.St.setT) | exact (rfl : (_ : Array Value) = _))); rintro e w6 ⟨rfl, hp⟩; replace HP := am_ hp; clear hp; have hcs : w6.cell? ⟨gs, 0, none⟩ = some (.string s) := (blk_cell HP.out.two.hs 0).trans rfl; have hca : w6.cell? ⟨ga, 0, none⟩ = some (.int .i64 p1) := (blk_cell HP.out.two.ha 0).trans rfl; have hfa := blk_frozen HP.out.two.ha 0; have ht0 : w6.cell? ⟨gt, 0, none⟩ = some (.bool ng) := (blk_cell HP.out.ht 0).trans rfl; have hf0 := blk_frozen HP.out.ht 0; have ht1 : w6.cell? ⟨gt, 1, none⟩ = some (.string sw) := (blk_cell HP.out.ht 1).trans rfl; have hf1 := blk_frozen HP.out.ht 1; have ht2 : w6.cell? ⟨gt, 2, none⟩ = some (.string (⟨#[]⟩ : ByteArray)) := (blk_cell HP.out.ht 2).trans rfl; have hf2 := blk_frozen HP.out.ht 2; have ht3 : w6.cell? ⟨gt, 3, none⟩ = some (.string (⟨#[]⟩ : ByteArray)) := (blk_cell HP.out.ht 3).trans rfl; have hf3 := blk_frozen HP.out.ht 3; have ht4 : w6.cell? ⟨gt, 4, none⟩ = some (.int .i64 0) := (blk_cell HP.out.ht 4).trans rfl; have hf4 := blk_frozen HP.out.ht 4))
  go_meet
  case rel =>
   rw [d6.out]; exact ⟨by repeat (first | (with_reducible first | exact HP.out | apply number_parts.St.drewN | apply number_parts.St.drew | apply number_parts.St.setA0 | apply number_parts.St.setA | apply number_parts.St.setT) | exact (rfl : (_ : Array Value) = _))⟩
 have HP := hcut; clear hcut; have hcs : wc.cell? ⟨gs, 0, none⟩ = some (.string s) := (blk_cell HP.out.two.hs 0).trans rfl; have hca : wc.cell? ⟨ga, 0, none⟩ = some (.int .i64 a2) := (blk_cell HP.out.two.ha 0).trans rfl; have hfa := blk_frozen HP.out.two.ha 0; have ht0 : wc.cell? ⟨gt, 0, none⟩ = some (.bool ng) := (blk_cell HP.out.ht 0).trans rfl; have hf0 := blk_frozen HP.out.ht 0; have ht1 : wc.cell? ⟨gt, 1, none⟩ = some (.string sw) := (blk_cell HP.out.ht 1).trans rfl; have hf1 := blk_frozen HP.out.ht 1; have ht2 : wc.cell? ⟨gt, 2, none⟩ = some (.string p) := (blk_cell HP.out.ht 2).trans rfl; have hf2 := blk_frozen HP.out.ht 2; have ht3 : wc.cell? ⟨gt, 3, none⟩ = some (.string (⟨#[]⟩ : ByteArray)) := (blk_cell HP.out.ht 3).trans rfl; have hf3 := blk_frozen HP.out.ht 3; have ht4 : wc.cell? ⟨gt, 4, none⟩ = some (.int .i64 0) := (blk_cell HP.out.ht 4).trans rfl; have hf4 := blk_frozen HP.out.ht 4; go_upto_region 11 with (fail)
 go_cut [42] (fun v42 wc => v42 = .bool false ∧ Aside0 (number_parts.St w wc gs gt ga s #[.bool ng, .string sw, .string p, .string (⟨#[]⟩ : ByteArray), .int .i64 0] a2))
 case first =>
  cases bw
  ·go_wp2; go_meet
   case rel => exact ⟨rfl, ⟨by repeat (first | (with_reducible first | exact HP.out | apply number_parts.St.drewN | apply number_parts.St.drew | apply number_parts.St.setA0 | apply number_parts.St.setA | apply number_parts.St.setT) | exact (rfl : (_ : Array Value) = _))⟩⟩
  have d1 : bp = false := by simpa using hZ
  subst d1; go_wp2; go_meet
  case rel => exact ⟨rfl, ⟨by repeat (first | (with_reducible first | exact HP.out | apply number_parts.St.drewN | apply number_parts.St.drew | apply number_parts.St.setA0 | apply number_parts.St.setA | apply number_parts.St.setT) | exact (rfl : (_ : Array Value) = _))⟩⟩
 obtain ⟨rfl, HP⟩ := hcut; have hcs : wc.cell? ⟨gs, 0, none⟩ = some (.string s) := (blk_cell HP.out.two.hs 0).trans rfl; have hca : wc.cell? ⟨ga, 0, none⟩ = some (.int .i64 a2) := (blk_cell HP.out.two.ha 0).trans rfl; have hfa := blk_frozen HP.out.two.ha 0; have ht0 : wc.cell? ⟨gt, 0, none⟩ = some (.bool ng) := (blk_cell HP.out.ht 0).trans rfl; have hf0 := blk_frozen HP.out.ht 0; have ht1 : wc.cell? ⟨gt, 1, none⟩ = some (.string sw) := (blk_cell HP.out.ht 1).trans rfl; have hf1 := blk_frozen HP.out.ht 1; have ht2 : wc.cell? ⟨gt, 2, none⟩ = some (.string p) := (blk_cell HP.out.ht 2).trans rfl; have hf2 := blk_frozen HP.out.ht 2; have ht3 : wc.cell? ⟨gt, 3, none⟩ = some (.string (⟨#[]⟩ : ByteArray)) := (blk_cell HP.out.ht 3).trans rfl; have hf3 := blk_frozen HP.out.ht 3; have ht4 : wc.cell? ⟨gt, 4, none⟩ = some (.int .i64 0) := (blk_cell HP.out.ht 4).trans rfl; have hf4 := blk_frozen HP.out.ht 4; go_upto_region 14 with (fail)
 go_cut [61] (fun v61 wc => v61 = .bool be ∧ Aside0 (number_parts.St w wc gs gt ga s #[.bool ng, .string sw, .string p, .string (⟨#[]⟩ : ByteArray), .int .i64 a2] a2))
 case first =>
  by_cases d1 : a2 < s.size
  ·obtain ⟨qa, qb, qc, qd, qe, qf⟩ := number_parts.at_in d1; have d2 : be = ((bt s (a2 : Nat) == 101) || (bt s (a2 : Nat) == 69)) := by rw [HBE.out]; unfold number_parts.isE; rw [qd]; rfl
   have HD2 := am_ d2; clear d1 d2; cases d3 : (bt s (a2 : Nat) == 101)
   ·go_wp2; go_meet
    case rel => exact ⟨by rw [HD2.out, d3]; rfl, ⟨by repeat (first | (with_reducible first | exact HP.out | apply number_parts.St.drewN | apply number_parts.St.drew | apply number_parts.St.setA0 | apply number_parts.St.setA | apply number_parts.St.setT) | exact (rfl : (_ : Array Value) = _))⟩⟩
   go_wp2; go_meet
   case rel => exact ⟨by rw [HD2.out, d3]; rfl, ⟨by repeat (first | (with_reducible first | exact HP.out | apply number_parts.St.drewN | apply number_parts.St.drew | apply number_parts.St.setA0 | apply number_parts.St.setA | apply number_parts.St.setT) | exact (rfl : (_ : Array Value) = _))⟩⟩
  obtain ⟨qa, qb⟩ := number_parts.at_out d1; have d2 : be = false := by rw [HBE.out]; unfold number_parts.isE; rw [qb]; rfl
  have HD2 := am_ d2; clear d1 d2; go_wp2; go_meet
  case rel => exact ⟨by rw [HD2.out], ⟨by repeat (first | (with_reducible first | exact HP.out | apply number_parts.St.drewN | apply number_parts.St.drew | apply number_parts.St.setA0 | apply number_parts.St.setA | apply number_parts.St.setT) | exact (rfl : (_ : Array Value) = _))⟩⟩
 obtain ⟨rfl, HP⟩ := hcut; have hcs : wc.cell? ⟨gs, 0, none⟩ = some (.string s) := (blk_cell HP.out.two.hs 0).trans rfl; have hca : wc.cell? ⟨ga, 0, none⟩ = some (.int .i64 a2) := (blk_cell HP.out.two.ha 0).trans rfl; have hfa := blk_frozen HP.out.two.ha 0; have ht0 : wc.cell? ⟨gt, 0, none⟩ = some (.bool ng) := (blk_cell HP.out.ht 0).trans rfl; have hf0 := blk_frozen HP.out.ht 0; have ht1 : wc.cell? ⟨gt, 1, none⟩ = some (.string sw) := (blk_cell HP.out.ht 1).trans rfl; have hf1 := blk_frozen HP.out.ht 1; have ht2 : wc.cell? ⟨gt, 2, none⟩ = some (.string p) := (blk_cell HP.out.ht 2).trans rfl; have hf2 := blk_frozen HP.out.ht 2; have ht3 : wc.cell? ⟨gt, 3, none⟩ = some (.string (⟨#[]⟩ : ByteArray)) := (blk_cell HP.out.ht 3).trans rfl; have hf3 := blk_frozen HP.out.ht 3; have ht4 : wc.cell? ⟨gt, 4, none⟩ = some (.int .i64 a2) := (blk_cell HP.out.ht 4).trans rfl; have hf4 := blk_frozen HP.out.ht 4; go_upto_if 61 with (fail)
 go_cut [] (fun wc => ∃ i : Nat, Aside0 (number_parts.St w wc gs gt ga s #[.bool ng, .string sw, .string p, .string x, .int .i64 en] i))
 case first =>
  rcases HE.out with ⟨d1, d2, d3⟩ | ⟨d1, d2, d3, d4, d5⟩ | ⟨d1, d2, d3, d4, d5⟩ | ⟨d1, d2, d3, d4, d5⟩
  ·have d4 : be = false := by rw [HBE.out]; unfold number_parts.isE; rw [df_ d1]; rfl
   subst d4; replace d2 := am_ d2; replace d3 := am_ d3; clear d1; go_wp2; go_meet
   case rel =>
    rw [d2.out, ← d3.out]; exact ⟨_, ⟨by repeat (first | (with_reducible first | exact HP.out | apply number_parts.St.drewN | apply number_parts.St.drew | apply number_parts.St.setA0 | apply number_parts.St.setA | apply number_parts.St.setT) | exact (rfl : (_ : Array Value) = _))⟩⟩
  ·have d6 : be = false := by rw [HBE.out]; unfold number_parts.isE; rw [d2, d3, Bool.or_false, Bool.and_false]
   subst d6; replace d4 := am_ d4; replace d5 := am_ d5; clear d1 d2 d3; go_wp2; go_meet
   case rel =>
    rw [d4.out, ← d5.out]; exact ⟨_, ⟨by repeat (first | (with_reducible first | exact HP.out | apply number_parts.St.drewN | apply number_parts.St.drew | apply number_parts.St.setA0 | apply number_parts.St.setA | apply number_parts.St.setT) | exact (rfl : (_ : Array Value) = _))⟩⟩
  ·have d6 : be = true := by rw [HBE.out]; unfold number_parts.isE; rw [dt_ d1]; exact d2.elim (fun h => by rw [h]; rfl) (fun h => by rw [h.1, h.2]; rfl)
   subst d6; have H2 := am_ (HB2.out d1); have H3 := am_ (HX0.out d1); have H4 := am_ (HX0b.out d1); have H5 := am_ (HX1.out d1); clear HB2 HX0 HX0b HX1 HX1b; have HB2 := H2; have HX0 := H3; have HX0b := H4; have HX1 := H5; have e5 : (y.toList != ([] : List UInt8)) = false := by rw [bne, d3]; rfl
   replace d4 := am_ d4; replace d5 := am_ d5; clear d1 d2; go_wp2_with (first | (go_at_call 86; refine (number_parts.sign_st (w := w) (gt := gt) (c := #[.bool ng, .string sw, .string p, .string (⟨#[]⟩ : ByteArray), .int .i64 a2]) (i := b2) ?st x0 q HN.out HB2.out HX0.out HQ.out).mono ?_; (case st => repeat (first | (with_reducible first | exact HP.out | apply number_parts.St.drewN | apply number_parts.St.drew | apply number_parts.St.setA0 | apply number_parts.St.setA | apply number_parts.St.setT) | exact (rfl : (_ : Array Value) = _))); rintro e w7 ⟨rfl, hp⟩; replace HP := am_ hp; clear hp; have hcs : w7.cell? ⟨gs, 0, none⟩ = some (.string s) := (blk_cell HP.out.two.hs 0).trans rfl; have hca : w7.cell? ⟨ga, 0, none⟩ = some (.int .i64 x0) := (blk_cell HP.out.two.ha 0).trans rfl; have hfa := blk_frozen HP.out.two.ha 0; have ht0 : w7.cell? ⟨gt, 0, none⟩ = some (.bool ng) := (blk_cell HP.out.ht 0).trans rfl; have hf0 := blk_frozen HP.out.ht 0; have ht1 : w7.cell? ⟨gt, 1, none⟩ = some (.string sw) := (blk_cell HP.out.ht 1).trans rfl; have hf1 := blk_frozen HP.out.ht 1; have ht2 : w7.cell? ⟨gt, 2, none⟩ = some (.string p) := (blk_cell HP.out.ht 2).trans rfl; have hf2 := blk_frozen HP.out.ht 2; have ht3 : w7.cell? ⟨gt, 3, none⟩ = some (.string (⟨#[]⟩ : ByteArray)) := (blk_cell HP.out.ht 3).trans rfl; have hf3 := blk_frozen HP.out.ht 3; have ht4 : w7.cell? ⟨gt, 4, none⟩ = some (.int .i64 a2) := (blk_cell HP.out.ht 4).trans rfl; have hf4 := blk_frozen HP.out.ht 4) | (go_at_call 87; refine (number_parts.digits_st (w := w) (gt := gt) (c := #[.bool ng, .string sw, .string p, .string (⟨#[]⟩ : ByteArray), .int .i64 a2]) (i := x0) ?st x1 y HN.out HX0b.out HX1.out HY.out).mono ?_; (case st => repeat (first | (with_reducible first | exact HP.out | apply number_parts.St.drewN | apply number_parts.St.drew | apply number_parts.St.setA0 | apply number_parts.St.setA | apply number_parts.St.setT) | exact (rfl : (_ : Array Value) = _))); rintro e w8 ⟨rfl, hp⟩; replace HP := am_ hp; clear hp; have hcs : w8.cell? ⟨gs, 0, none⟩ = some (.string s) := (blk_cell HP.out.two.hs 0).trans rfl; have hca : w8.cell? ⟨ga, 0, none⟩ = some (.int .i64 x1) := (blk_cell HP.out.two.ha 0).trans rfl; have hfa := blk_frozen HP.out.two.ha 0; have ht0 : w8.cell? ⟨gt, 0, none⟩ = some (.bool ng) := (blk_cell HP.out.ht 0).trans rfl; have hf0 := blk_frozen HP.out.ht 0; have ht1 : w8.cell? ⟨gt, 1, none⟩ = some (.string sw) := (blk_cell HP.out.ht 1).trans rfl; have hf1 := blk_frozen HP.out.ht 1; have ht2 : w8.cell? ⟨gt, 2, none⟩ = some (.string p) := (blk_cell HP.out.ht 2).trans rfl; have hf2 := blk_frozen HP.out.ht 2; have ht3 : w8.cell? ⟨gt, 3, none⟩ = some (.string (⟨#[]⟩ : ByteArray)) := (blk_cell HP.out.ht 3).trans rfl; have hf3 := blk_frozen HP.out.ht 3; have ht4 : w8.cell? ⟨gt, 4, none⟩ = some (.int .i64 a2) := (blk_cell HP.out.ht 4).trans rfl; have hf4 := blk_frozen HP.out.ht 4))
   go_meet
   case rel =>
    rw [d4.out, ← d5.out]; exact ⟨_, ⟨by repeat (first | (with_reducible first | exact HP.out | apply number_parts.St.drewN | apply number_parts.St.drew | apply number_parts.St.setA0 | apply number_parts.St.setA | apply number_parts.St.setT) | exact (rfl : (_ : Array Value) = _))⟩⟩
  have d6 : be = true := by rw [HBE.out]; unfold number_parts.isE; rw [dt_ d1]; exact d2.elim (fun h => by rw [h]; rfl) (fun h => by rw [h.1, h.2]; rfl)
  subst d6; have HX := am_ (HX1b.out d1); have H2 := am_ (HB2.out d1); have H3 := am_ (HX0.out d1); have H4 := am_ (HX0b.out d1); have H5 := am_ (HX1.out d1); clear HB2 HX0 HX0b HX1 HX1b; have HB2 := H2; have HX0 := H3; have HX0b := H4; have HX1 := H5; have e5 : (y.toList != ([] : List UInt8)) = true := by rw [bne, d3]; rfl
  replace d4 := am_ d4; replace d5 := am_ d5; have sa : (b2 ≤ x1) = True := eq_true HX.out.1; have sb : (x1 ≤ s.size) = True := eq_true HX.out.2; have sc : ((b2 : Int) ≤ (x1 : Int)) = True := eq_true (Int.ofNat_le.2 HX.out.1); have sd : ((x1 : Int) ≤ (s.size : Int)) = True := eq_true (Int.ofNat_le.2 HX.out.2); have se : decide (b2 ≤ x1) = true := dt_ HX.out.1; have sf : decide (x1 ≤ s.size) = true := dt_ HX.out.2; have sg : (0 ≤ (b2 : Int)) = True := eq_true (Int.natCast_nonneg b2); clear d1 d2; go_wp2_with (first | (go_at_call 86; refine (number_parts.sign_st (w := w) (gt := gt) (c := #[.bool ng, .string sw, .string p, .string (⟨#[]⟩ : ByteArray), .int .i64 a2]) (i := b2) ?st x0 q HN.out HB2.out HX0.out HQ.out).mono ?_; (case st => repeat (first | (with_reducible first | exact HP.out | apply number_parts.St.drewN | apply number_parts.St.drew | apply number_parts.St.setA0 | apply number_parts.St.setA | apply number_parts.St.setT) | exact (rfl : (_ : Array Value) = _))); rintro e w7 ⟨rfl, hp⟩; replace HP := am_ hp; clear hp; have hcs : w7.cell? ⟨gs, 0, none⟩ = some (.string s) := (blk_cell HP.out.two.hs 0).trans rfl; have hca : w7.cell? ⟨ga, 0, none⟩ = some (.int .i64 x0) := (blk_cell HP.out.two.ha 0).trans rfl; have hfa := blk_frozen HP.out.two.ha 0; have ht0 : w7.cell? ⟨gt, 0, none⟩ = some (.bool ng) := (blk_cell HP.out.ht 0).trans rfl; have hf0 := blk_frozen HP.out.ht 0; have ht1 : w7.cell? ⟨gt, 1, none⟩ = some (.string sw) := (blk_cell HP.out.ht 1).trans rfl; have hf1 := blk_frozen HP.out.ht 1; have ht2 : w7.cell? ⟨gt, 2, none⟩ = some (.string p) := (blk_cell HP.out.ht 2).trans rfl; have hf2 := blk_frozen HP.out.ht 2; have ht3 : w7.cell? ⟨gt, 3, none⟩ = some (.string (⟨#[]⟩ : ByteArray)) := (blk_cell HP.out.ht 3).trans rfl; have hf3 := blk_frozen HP.out.ht 3; have ht4 : w7.cell? ⟨gt, 4, none⟩ = some (.int .i64 a2) := (blk_cell HP.out.ht 4).trans rfl; have hf4 := blk_frozen HP.out.ht 4) | (go_at_call 87; refine (number_parts.digits_st (w := w) (gt := gt) (c := #[.bool ng, .string sw, .string p, .string (⟨#[]⟩ : ByteArray), .int .i64 a2]) (i := x0) ?st x1 y HN.out HX0b.out HX1.out HY.out).mono ?_; (case st => repeat (first | (with_reducible first | exact HP.out | apply number_parts.St.drewN | apply number_parts.St.drew | apply number_parts.St.setA0 | apply number_parts.St.setA | apply number_parts.St.setT) | exact (rfl : (_ : Array Value) = _))); rintro e w8 ⟨rfl, hp⟩; replace HP := am_ hp; clear hp; have hcs : w8.cell? ⟨gs, 0, none⟩ = some (.string s) := (blk_cell HP.out.two.hs 0).trans rfl; have hca : w8.cell? ⟨ga, 0, none⟩ = some (.int .i64 x1) := (blk_cell HP.out.two.ha 0).trans rfl; have hfa := blk_frozen HP.out.two.ha 0; have ht0 : w8.cell? ⟨gt, 0, none⟩ = some (.bool ng) := (blk_cell HP.out.ht 0).trans rfl; have hf0 := blk_frozen HP.out.ht 0; have ht1 : w8.cell? ⟨gt, 1, none⟩ = some (.string sw) := (blk_cell HP.out.ht 1).trans rfl; have hf1 := blk_frozen HP.out.ht 1; have ht2 : w8.cell? ⟨gt, 2, none⟩ = some (.string p) := (blk_cell HP.out.ht 2).trans rfl; have hf2 := blk_frozen HP.out.ht 2; have ht3 : w8.cell? ⟨gt, 3, none⟩ = some (.string (⟨#[]⟩ : ByteArray)) := (blk_cell HP.out.ht 3).trans rfl; have hf3 := blk_frozen HP.out.ht 3; have ht4 : w8.cell? ⟨gt, 4, none⟩ = some (.int .i64 a2) := (blk_cell HP.out.ht 4).trans rfl; have hf4 := blk_frozen HP.out.ht 4))
  go_region
  all_goals
   go_wp2; go_meet
   case rel =>
    rw [d4.out, ← d5.out]; exact ⟨_, ⟨by repeat (first | (with_reducible first | exact HP.out | apply number_parts.St.drewN | apply number_parts.St.drew | apply number_parts.St.setA0 | apply number_parts.St.setA | apply number_parts.St.setT) | exact (rfl : (_ : Array Value) = _))⟩⟩
 obtain ⟨i, HP⟩ := hcut; have hcs : wc.cell? ⟨gs, 0, none⟩ = some (.string s) := (blk_cell HP.out.two.hs 0).trans rfl; have hca : wc.cell? ⟨ga, 0, none⟩ = some (.int .i64 i) := (blk_cell HP.out.two.ha 0).trans rfl; have hfa := blk_frozen HP.out.two.ha 0; have ht0 : wc.cell? ⟨gt, 0, none⟩ = some (.bool ng) := (blk_cell HP.out.ht 0).trans rfl; have hf0 := blk_frozen HP.out.ht 0; have ht1 : wc.cell? ⟨gt, 1, none⟩ = some (.string sw) := (blk_cell HP.out.ht 1).trans rfl; have hf1 := blk_frozen HP.out.ht 1; have ht2 : wc.cell? ⟨gt, 2, none⟩ = some (.string p) := (blk_cell HP.out.ht 2).trans rfl; have hf2 := blk_frozen HP.out.ht 2; have ht3 : wc.cell? ⟨gt, 3, none⟩ = some (.string x) := (blk_cell HP.out.ht 3).trans rfl; have hf3 := blk_frozen HP.out.ht 3; have ht4 : wc.cell? ⟨gt, 4, none⟩ = some (.int .i64 en) := (blk_cell HP.out.ht 4).trans rfl; have hf4 := blk_frozen HP.out.ht 4; go_wp2; refine bodyPost_ret (results_cell_row rfl _ _ gt 93 #[.bool ng, .string sw, .string p, .string x, .int .i64 en] (0, 0) _ rfl (show _ from (by repeat (first | (with_reducible first | exact HP.out | apply number_parts.St.drewN | apply number_parts.St.drew | apply number_parts.St.setA0 | apply number_parts.St.setA | apply number_parts.St.setT) | exact (rfl : (_ : Array Value) = _)) : number_parts.St w _ gs gt ga s #[.bool ng, .string sw, .string p, .string x, .int .i64 en] _).ht) Try.underlying93 rfl (by kernel_rfl)) rfl ?_
 exact ⟨rfl, (by repeat (first | (with_reducible first | exact HP.out | apply number_parts.St.drewN | apply number_parts.St.drew | apply number_parts.St.setA0 | apply number_parts.St.setA | apply number_parts.St.setT) | exact (rfl : (_ : Array Value) = _)) : number_parts.St w _ gs gt ga s #[.bool ng, .string sw, .string p, .string x, .int .i64 en] _).b⟩

set_option maxHeartbeats 40000000 in
theorem number_parts.walk0 (s sw p y x : ByteArray) (ng q : Bool) (a0 a1 b1 p1 a2 b2 x0 x1 en : Nat) (w : World) (hs : s.size ≤ 140737488351232)
  (h0 : number_parts.sgn s 0 = a0) (hn : number_parts.neg s 0 = ng) (h0b : a0 ≤ s.size) (h1 : number_parts.stop s a0 = a1) (h1b : a1 ≤ s.size) (hsw : s.extract a0 a1 = sw) (hb1 : b1 = a1 + 1)
  (hD : number_parts.DotWay s a1 b1 p1 a2 p) (hp1 : a1 < s.size → number_parts.stop s b1 = p1) (h2b : a2 ≤ s.size) (hb2 : b2 = a2 + 1)
  (hZ : ((sw.toList == ([] : List UInt8)) && (p.toList == ([] : List UInt8))) = true)
  (hx0 : a2 < s.size → number_parts.sgn s b2 = x0) (hq : number_parts.neg s b2 = q) (hx0b : a2 < s.size → x0 ≤ s.size) (hx1 : a2 < s.size → number_parts.stop s x0 = x1) (hy : s.extract x0 x1 = y) (hx1b : a2 < s.size → b2 ≤ x1 ∧ x1 ≤ s.size) :
  Calls Try.prog 64 #[.string s] w fun e w' => e = .returned (.agg #[.bool false, .string (⟨#[]⟩ : ByteArray), .string (⟨#[]⟩ : ByteArray), .string (⟨#[]⟩ : ByteArray), .int .i64 0]) ∧ Below w.heap.size w w' := by
 have hu := Try.underlying93; have HB1 : Aside0 (a1 < s.size → b1 ≤ s.size) := ⟨fun h => by omega⟩
 have HB2 : Aside0 (a2 < s.size → b2 ≤ s.size) := ⟨fun h => by omega⟩
 have HN := am_ hs; have H0 := am_ h0; have HNG := am_ hn; have H0b := am_ h0b; have H1 := am_ h1; have HSW := am_ hsw; have HQ := am_ hq; have HY := am_ hy; have hW1 : wrap64 ((a1 : Int) + 1) = (b1 : Int) := by rw [hb1]; exact number_parts.wr1 h1b hs
 have hW2 : wrap64 ((b1 : Int) - 1) = (a1 : Int) := by rw [hb1]; exact number_parts.wr2 h1b hs
 have hW3 : wrap64 ((a2 : Int) + 1) = (b2 : Int) := by rw [hb2]; exact number_parts.wr1 h2b hs
 have HP1 := am_ hp1; have HX0 := am_ hx0; have HX0b := am_ hx0b; have HX1 := am_ hx1; have HX1b := am_ hx1b; clear hs h0 hn h0b h1 hsw hq hy hb1 hb2 hp1 hx0 hx0b hx1 hx1b h1b h2b; have HD : (∃ bw bp : Bool, (sw.toList == ([] : List UInt8)) = bw ∧ (p.toList == ([] : List UInt8)) = bp) := ⟨_, _, rfl, rfl⟩
 obtain ⟨bw, bp, hbw, hbp⟩ := HD; rw [hbw, hbp] at hZ; have hbw1 : (sw.toList != ([] : List UInt8)) = !bw := by rw [← hbw]; rfl
 have hbp1 : (p.toList != ([] : List UInt8)) = !bp := by rw [← hbp]; rfl
 obtain ⟨bd, hbd⟩ : ∃ bd : Bool, bd = number_parts.isDot s a1 := ⟨_, rfl⟩
 have HBD := am_ hbd; have HD := am_ hD; clear hbd hD; go_enter Try.func64, Try.ntmps64
 go_upto_region 6 with (first | ((with_reducible refine gate_dst (N := 1) rfl ?_); (try (refine gate_guard (by rfl) ?_; dsimp only)); refine box_event ?hg (N := 1) ?hd (cs := #[.string s]) (t := 9) ?hr ?_; (case hd => rfl); (case hg => rfl); (case hr => first | (go_simp; done) | (go_simp; rfl)); intro gs hg w1 hbox hb; have KB1 := am_ hb; have KS1 := am_ hbox; have KG1 := am_ hg; clear hg hbox hb) | ((with_reducible refine gate_dst (N := 2) rfl ?_); (try (refine gate_guard (by rfl) ?_; dsimp only)); refine box_event ?hg (N := 2) ?hd (cs := #[.bool false, .string (⟨#[]⟩ : ByteArray), .string (⟨#[]⟩ : ByteArray), .string (⟨#[]⟩ : ByteArray), .int .i64 0]) (t := 93) ?hr ?_; (case hd => rfl); (case hg => rfl); (case hr => first | (go_simp; done) | (go_simp; rfl)); intro gt hg w2 hbox hb; have KB2 := am_ hb; have KS2 := am_ hbox; have KG2 := am_ hg; clear hg hbox hb) | ((with_reducible refine gate_dst (N := 3) rfl ?_); (try (refine gate_guard (by rfl) ?_; dsimp only)); refine box_event ?hg (N := 3) ?hd (cs := #[.int .i64 0]) (t := 3) ?hr ?_; (case hd => rfl); (case hg => rfl); (case hr => first | (go_simp; done) | (go_simp; rfl)); intro ga hg w3 hbox hb; have KB3 := am_ hb; have KS3 := am_ hbox; have KG3 := am_ hg; clear hg hbox hb; have HP := am_ (number_parts.St.start KG1.out KS1.out KB1.out KG2.out KS2.out KB2.out KG3.out KS3.out KB3.out); have n1 : gs ≠ gt := Nat.ne_of_lt HP.out.o1; have n2 : gt ≠ gs := Nat.ne_of_gt HP.out.o1; have n3 : gt ≠ ga := Nat.ne_of_lt HP.out.o2; have n4 : ga ≠ gt := Nat.ne_of_gt HP.out.o2; have n5 : gs ≠ ga := Nat.ne_of_lt HP.out.two.lt; have n6 : ga ≠ gs := Nat.ne_of_gt HP.out.two.lt; have hcs : w3.cell? ⟨gs, 0, none⟩ = some (.string s) := (blk_cell HP.out.two.hs 0).trans rfl; have hca : w3.cell? ⟨ga, 0, none⟩ = some (.int .i64 0) := (blk_cell HP.out.two.ha 0).trans rfl; have hfa := blk_frozen HP.out.two.ha 0; have ht0 : w3.cell? ⟨gt, 0, none⟩ = some (.bool false) := (blk_cell HP.out.ht 0).trans rfl; have hf0 := blk_frozen HP.out.ht 0; have ht1 : w3.cell? ⟨gt, 1, none⟩ = some (.string (⟨#[]⟩ : ByteArray)) := (blk_cell HP.out.ht 1).trans rfl; have hf1 := blk_frozen HP.out.ht 1; have ht2 : w3.cell? ⟨gt, 2, none⟩ = some (.string (⟨#[]⟩ : ByteArray)) := (blk_cell HP.out.ht 2).trans rfl; have hf2 := blk_frozen HP.out.ht 2; have ht3 : w3.cell? ⟨gt, 3, none⟩ = some (.string (⟨#[]⟩ : ByteArray)) := (blk_cell HP.out.ht 3).trans rfl; have hf3 := blk_frozen HP.out.ht 3; have ht4 : w3.cell? ⟨gt, 4, none⟩ = some (.int .i64 0) := (blk_cell HP.out.ht 4).trans rfl; have hf4 := blk_frozen HP.out.ht 4) | (go_at_call 86; refine (number_parts.sign_st (w := w) (gt := gt) (c := #[.bool false, .string (⟨#[]⟩ : ByteArray), .string (⟨#[]⟩ : ByteArray), .string (⟨#[]⟩ : ByteArray), .int .i64 0]) (i := 0) ?st a0 ng HN.out (Nat.zero_le _) H0.out HNG.out).mono ?_; (case st => repeat (first | (with_reducible first | exact HP.out | apply number_parts.St.drewN | apply number_parts.St.drew | apply number_parts.St.setA0 | apply number_parts.St.setA | apply number_parts.St.setT) | exact (rfl : (_ : Array Value) = _))); rintro e w4 ⟨rfl, hp⟩; replace HP := am_ hp; clear hp; have hcs : w4.cell? ⟨gs, 0, none⟩ = some (.string s) := (blk_cell HP.out.two.hs 0).trans rfl; have hca : w4.cell? ⟨ga, 0, none⟩ = some (.int .i64 a0) := (blk_cell HP.out.two.ha 0).trans rfl; have hfa := blk_frozen HP.out.two.ha 0; have ht0 : w4.cell? ⟨gt, 0, none⟩ = some (.bool false) := (blk_cell HP.out.ht 0).trans rfl; have hf0 := blk_frozen HP.out.ht 0; have ht1 : w4.cell? ⟨gt, 1, none⟩ = some (.string (⟨#[]⟩ : ByteArray)) := (blk_cell HP.out.ht 1).trans rfl; have hf1 := blk_frozen HP.out.ht 1; have ht2 : w4.cell? ⟨gt, 2, none⟩ = some (.string (⟨#[]⟩ : ByteArray)) := (blk_cell HP.out.ht 2).trans rfl; have hf2 := blk_frozen HP.out.ht 2; have ht3 : w4.cell? ⟨gt, 3, none⟩ = some (.string (⟨#[]⟩ : ByteArray)) := (blk_cell HP.out.ht 3).trans rfl; have hf3 := blk_frozen HP.out.ht 3; have ht4 : w4.cell? ⟨gt, 4, none⟩ = some (.int .i64 0) := (blk_cell HP.out.ht 4).trans rfl; have hf4 := blk_frozen HP.out.ht 4) | (go_at_call 87; refine (number_parts.digits_st (w := w) (gt := gt) (c := #[.bool ng, .string (⟨#[]⟩ : ByteArray), .string (⟨#[]⟩ : ByteArray), .string (⟨#[]⟩ : ByteArray), .int .i64 0]) (i := a0) ?st a1 sw HN.out H0b.out H1.out HSW.out).mono ?_; (case st => repeat (first | (with_reducible first | exact HP.out | apply number_parts.St.drewN | apply number_parts.St.drew | apply number_parts.St.setA0 | apply number_parts.St.setA | apply number_parts.St.setT) | exact (rfl : (_ : Array Value) = _))); rintro e w5 ⟨rfl, hp⟩; replace HP := am_ hp; clear hp; have hcs : w5.cell? ⟨gs, 0, none⟩ = some (.string s) := (blk_cell HP.out.two.hs 0).trans rfl; have hca : w5.cell? ⟨ga, 0, none⟩ = some (.int .i64 a1) := (blk_cell HP.out.two.ha 0).trans rfl; have hfa := blk_frozen HP.out.two.ha 0; have ht0 : w5.cell? ⟨gt, 0, none⟩ = some (.bool ng) := (blk_cell HP.out.ht 0).trans rfl; have hf0 := blk_frozen HP.out.ht 0; have ht1 : w5.cell? ⟨gt, 1, none⟩ = some (.string (⟨#[]⟩ : ByteArray)) := (blk_cell HP.out.ht 1).trans rfl; have hf1 := blk_frozen HP.out.ht 1; have ht2 : w5.cell? ⟨gt, 2, none⟩ = some (.string (⟨#[]⟩ : ByteArray)) := (blk_cell HP.out.ht 2).trans rfl; have hf2 := blk_frozen HP.out.ht 2; have ht3 : w5.cell? ⟨gt, 3, none⟩ = some (.string (⟨#[]⟩ : ByteArray)) := (blk_cell HP.out.ht 3).trans rfl; have hf3 := blk_frozen HP.out.ht 3; have ht4 : w5.cell? ⟨gt, 4, none⟩ = some (.int .i64 0) := (blk_cell HP.out.ht 4).trans rfl; have hf4 := blk_frozen HP.out.ht 4))
 go_cut [24] (fun v24 wc => v24 = .bool bd ∧ Aside0 (number_parts.St w wc gs gt ga s #[.bool ng, .string sw, .string (⟨#[]⟩ : ByteArray), .string (⟨#[]⟩ : ByteArray), .int .i64 0] a1))
 case first =>
  by_cases d1 : a1 < s.size
  ·obtain ⟨qa, qb, qc, qd, qe, qf⟩ := number_parts.at_in d1; have d2 : bd = (bt s (a1 : Nat) == 46) := by rw [HBD.out]; unfold number_parts.isDot; rw [qd]; rfl
   have HD2 := am_ d2; clear d1 d2; go_wp2; go_meet
   case rel => exact ⟨by rw [HD2.out], ⟨by repeat (first | (with_reducible first | exact HP.out | apply number_parts.St.drewN | apply number_parts.St.drew | apply number_parts.St.setA0 | apply number_parts.St.setA | apply number_parts.St.setT) | exact (rfl : (_ : Array Value) = _))⟩⟩
  obtain ⟨qa, qb⟩ := number_parts.at_out d1; have d2 : bd = false := by rw [HBD.out]; unfold number_parts.isDot; rw [qb]; rfl
  have HD2 := am_ d2; clear d1 d2; go_wp2; go_meet
  case rel => exact ⟨by rw [HD2.out], ⟨by repeat (first | (with_reducible first | exact HP.out | apply number_parts.St.drewN | apply number_parts.St.drew | apply number_parts.St.setA0 | apply number_parts.St.setA | apply number_parts.St.setT) | exact (rfl : (_ : Array Value) = _))⟩⟩
 obtain ⟨rfl, HP⟩ := hcut; have hcs : wc.cell? ⟨gs, 0, none⟩ = some (.string s) := (blk_cell HP.out.two.hs 0).trans rfl; have hca : wc.cell? ⟨ga, 0, none⟩ = some (.int .i64 a1) := (blk_cell HP.out.two.ha 0).trans rfl; have hfa := blk_frozen HP.out.two.ha 0; have ht0 : wc.cell? ⟨gt, 0, none⟩ = some (.bool ng) := (blk_cell HP.out.ht 0).trans rfl; have hf0 := blk_frozen HP.out.ht 0; have ht1 : wc.cell? ⟨gt, 1, none⟩ = some (.string sw) := (blk_cell HP.out.ht 1).trans rfl; have hf1 := blk_frozen HP.out.ht 1; have ht2 : wc.cell? ⟨gt, 2, none⟩ = some (.string (⟨#[]⟩ : ByteArray)) := (blk_cell HP.out.ht 2).trans rfl; have hf2 := blk_frozen HP.out.ht 2; have ht3 : wc.cell? ⟨gt, 3, none⟩ = some (.string (⟨#[]⟩ : ByteArray)) := (blk_cell HP.out.ht 3).trans rfl; have hf3 := blk_frozen HP.out.ht 3; have ht4 : wc.cell? ⟨gt, 4, none⟩ = some (.int .i64 0) := (blk_cell HP.out.ht 4).trans rfl; have hf4 := blk_frozen HP.out.ht 4; go_upto_if 24 with (fail)
 go_cut [] (fun wc => Aside0 (number_parts.St w wc gs gt ga s #[.bool ng, .string sw, .string p, .string (⟨#[]⟩ : ByteArray), .int .i64 0] a2))
 case first =>
  rcases HD.out with ⟨d1, d2, d3⟩ | ⟨d1, d2, d3, d4⟩ | ⟨d1, d2, d3, d4, d5, d6⟩ | ⟨d1, d2, d3, d4, d5, d6⟩
  ·have d4 : bd = false := by rw [HBD.out]; unfold number_parts.isDot; rw [df_ d1]; rfl
   subst d4; replace d2 := am_ d2; replace d3 := am_ d3; clear d1; go_wp2; go_meet
   case rel =>
    rw [d2.out, d3.out]; exact ⟨by repeat (first | (with_reducible first | exact HP.out | apply number_parts.St.drewN | apply number_parts.St.drew | apply number_parts.St.setA0 | apply number_parts.St.setA | apply number_parts.St.setT) | exact (rfl : (_ : Array Value) = _))⟩
  ·have d5 : bd = false := by rw [HBD.out]; unfold number_parts.isDot; rw [d2, Bool.and_false]
   subst d5; replace d3 := am_ d3; replace d4 := am_ d4; clear d1 d2; go_wp2; go_meet
   case rel =>
    rw [d3.out, d4.out]; exact ⟨by repeat (first | (with_reducible first | exact HP.out | apply number_parts.St.drewN | apply number_parts.St.drew | apply number_parts.St.setA0 | apply number_parts.St.setA | apply number_parts.St.setT) | exact (rfl : (_ : Array Value) = _))⟩
  ·have HPP := am_ d5.symm; have HP2 := am_ (HP1.out d1); have HB3 := am_ (HB1.out d1); have d7 : bp = true := hbp.symm.trans d4; have d8 : bd = true := by rw [HBD.out]; unfold number_parts.isDot; rw [dt_ d1, d2]; rfl
   replace d6 := am_ d6; clear d1 d2 d4 d5 HP1 HB1; have HP1 := HP2; have HB1 := HB3; subst d7; subst d8; have d9 := d3.symm; subst d9; go_wp2_with (first | (go_at_call 87; refine (number_parts.digits_st (w := w) (gt := gt) (c := #[.bool ng, .string sw, .string (⟨#[]⟩ : ByteArray), .string (⟨#[]⟩ : ByteArray), .int .i64 0]) (i := b1) ?st b1 p HN.out HB1.out HP1.out HPP.out).mono ?_; (case st => repeat (first | (with_reducible first | exact HP.out | apply number_parts.St.drewN | apply number_parts.St.drew | apply number_parts.St.setA0 | apply number_parts.St.setA | apply number_parts.St.setT) | exact (rfl : (_ : Array Value) = _))); rintro e w6 ⟨rfl, hp⟩; replace HP := am_ hp; clear hp; have hcs : w6.cell? ⟨gs, 0, none⟩ = some (.string s) := (blk_cell HP.out.two.hs 0).trans rfl; have hca : w6.cell? ⟨ga, 0, none⟩ = some (.int .i64 b1) := (blk_cell HP.out.two.ha 0).trans rfl; have hfa := blk_frozen HP.out.two.ha 0; have ht0 : w6.cell? ⟨gt, 0, none⟩ = some (.bool ng) := (blk_cell HP.out.ht 0).trans rfl; have hf0 := blk_frozen HP.out.ht 0; have ht1 : w6.cell? ⟨gt, 1, none⟩ = some (.string sw) := (blk_cell HP.out.ht 1).trans rfl; have hf1 := blk_frozen HP.out.ht 1; have ht2 : w6.cell? ⟨gt, 2, none⟩ = some (.string (⟨#[]⟩ : ByteArray)) := (blk_cell HP.out.ht 2).trans rfl; have hf2 := blk_frozen HP.out.ht 2; have ht3 : w6.cell? ⟨gt, 3, none⟩ = some (.string (⟨#[]⟩ : ByteArray)) := (blk_cell HP.out.ht 3).trans rfl; have hf3 := blk_frozen HP.out.ht 3; have ht4 : w6.cell? ⟨gt, 4, none⟩ = some (.int .i64 0) := (blk_cell HP.out.ht 4).trans rfl; have hf4 := blk_frozen HP.out.ht 4))
   go_meet
   case rel =>
    rw [d6.out]; exact ⟨by repeat (first | (with_reducible first | exact HP.out | apply number_parts.St.drewN | apply number_parts.St.drew | apply number_parts.St.setA0 | apply number_parts.St.setA | apply number_parts.St.setT) | exact (rfl : (_ : Array Value) = _))⟩
  have HPP := am_ d5.symm; have HP2 := am_ (HP1.out d1); have HB3 := am_ (HB1.out d1); have d7 : bp = false := hbp.symm.trans d4; have d8 : bd = true := by rw [HBD.out]; unfold number_parts.isDot; rw [dt_ d1, d2]; rfl
  replace d6 := am_ d6; clear d1 d2 d3 d4 d5 HP1 HB1; have HP1 := HP2; have HB1 := HB3; subst d7; subst d8; go_wp2_with (first | (go_at_call 87; refine (number_parts.digits_st (w := w) (gt := gt) (c := #[.bool ng, .string sw, .string (⟨#[]⟩ : ByteArray), .string (⟨#[]⟩ : ByteArray), .int .i64 0]) (i := b1) ?st p1 p HN.out HB1.out HP1.out HPP.out).mono ?_; (case st => repeat (first | (with_reducible first | exact HP.out | apply number_parts.St.drewN | apply number_parts.St.drew | apply number_parts.St.setA0 | apply number_parts.St.setA | apply number_parts.St.setT) | exact (rfl : (_ : Array Value) = _))); rintro e w6 ⟨rfl, hp⟩; replace HP := am_ hp; clear hp; have hcs : w6.cell? ⟨gs, 0, none⟩ = some (.string s) := (blk_cell HP.out.two.hs 0).trans rfl; have hca : w6.cell? ⟨ga, 0, none⟩ = some (.int .i64 p1) := (blk_cell HP.out.two.ha 0).trans rfl; have hfa := blk_frozen HP.out.two.ha 0; have ht0 : w6.cell? ⟨gt, 0, none⟩ = some (.bool ng) := (blk_cell HP.out.ht 0).trans rfl; have hf0 := blk_frozen HP.out.ht 0; have ht1 : w6.cell? ⟨gt, 1, none⟩ = some (.string sw) := (blk_cell HP.out.ht 1).trans rfl; have hf1 := blk_frozen HP.out.ht 1; have ht2 : w6.cell? ⟨gt, 2, none⟩ = some (.string (⟨#[]⟩ : ByteArray)) := (blk_cell HP.out.ht 2).trans rfl; have hf2 := blk_frozen HP.out.ht 2; have ht3 : w6.cell? ⟨gt, 3, none⟩ = some (.string (⟨#[]⟩ : ByteArray)) := (blk_cell HP.out.ht 3).trans rfl; have hf3 := blk_frozen HP.out.ht 3; have ht4 : w6.cell? ⟨gt, 4, none⟩ = some (.int .i64 0) := (blk_cell HP.out.ht 4).trans rfl; have hf4 := blk_frozen HP.out.ht 4))
  go_meet
  case rel =>
   rw [d6.out]; exact ⟨by repeat (first | (with_reducible first | exact HP.out | apply number_parts.St.drewN | apply number_parts.St.drew | apply number_parts.St.setA0 | apply number_parts.St.setA | apply number_parts.St.setT) | exact (rfl : (_ : Array Value) = _))⟩
 have HP := hcut; clear hcut; have hcs : wc.cell? ⟨gs, 0, none⟩ = some (.string s) := (blk_cell HP.out.two.hs 0).trans rfl; have hca : wc.cell? ⟨ga, 0, none⟩ = some (.int .i64 a2) := (blk_cell HP.out.two.ha 0).trans rfl; have hfa := blk_frozen HP.out.two.ha 0; have ht0 : wc.cell? ⟨gt, 0, none⟩ = some (.bool ng) := (blk_cell HP.out.ht 0).trans rfl; have hf0 := blk_frozen HP.out.ht 0; have ht1 : wc.cell? ⟨gt, 1, none⟩ = some (.string sw) := (blk_cell HP.out.ht 1).trans rfl; have hf1 := blk_frozen HP.out.ht 1; have ht2 : wc.cell? ⟨gt, 2, none⟩ = some (.string p) := (blk_cell HP.out.ht 2).trans rfl; have hf2 := blk_frozen HP.out.ht 2; have ht3 : wc.cell? ⟨gt, 3, none⟩ = some (.string (⟨#[]⟩ : ByteArray)) := (blk_cell HP.out.ht 3).trans rfl; have hf3 := blk_frozen HP.out.ht 3; have ht4 : wc.cell? ⟨gt, 4, none⟩ = some (.int .i64 0) := (blk_cell HP.out.ht 4).trans rfl; have hf4 := blk_frozen HP.out.ht 4; go_upto_region 11 with (fail)
 go_cut [42] (fun v42 wc => v42 = .bool true ∧ Aside0 (number_parts.St w wc gs gt ga s #[.bool ng, .string sw, .string p, .string (⟨#[]⟩ : ByteArray), .int .i64 0] a2))
 case first =>
  obtain ⟨z1, z2⟩ := Bool.and_eq_true_iff.1 hZ; subst z1; subst z2; go_wp2; go_meet
  case rel => exact ⟨rfl, ⟨by repeat (first | (with_reducible first | exact HP.out | apply number_parts.St.drewN | apply number_parts.St.drew | apply number_parts.St.setA0 | apply number_parts.St.setA | apply number_parts.St.setT) | exact (rfl : (_ : Array Value) = _))⟩⟩
 obtain ⟨rfl, HP⟩ := hcut; have hcs : wc.cell? ⟨gs, 0, none⟩ = some (.string s) := (blk_cell HP.out.two.hs 0).trans rfl; have hca : wc.cell? ⟨ga, 0, none⟩ = some (.int .i64 a2) := (blk_cell HP.out.two.ha 0).trans rfl; have hfa := blk_frozen HP.out.two.ha 0; have ht0 : wc.cell? ⟨gt, 0, none⟩ = some (.bool ng) := (blk_cell HP.out.ht 0).trans rfl; have hf0 := blk_frozen HP.out.ht 0; have ht1 : wc.cell? ⟨gt, 1, none⟩ = some (.string sw) := (blk_cell HP.out.ht 1).trans rfl; have hf1 := blk_frozen HP.out.ht 1; have ht2 : wc.cell? ⟨gt, 2, none⟩ = some (.string p) := (blk_cell HP.out.ht 2).trans rfl; have hf2 := blk_frozen HP.out.ht 2; have ht3 : wc.cell? ⟨gt, 3, none⟩ = some (.string (⟨#[]⟩ : ByteArray)) := (blk_cell HP.out.ht 3).trans rfl; have hf3 := blk_frozen HP.out.ht 3; have ht4 : wc.cell? ⟨gt, 4, none⟩ = some (.int .i64 0) := (blk_cell HP.out.ht 4).trans rfl; have hf4 := blk_frozen HP.out.ht 4; go_wp2; refine bodyPost_ret (results_cell_row rfl _ _ gt 93 #[.bool false, .string (⟨#[]⟩ : ByteArray), .string (⟨#[]⟩ : ByteArray), .string (⟨#[]⟩ : ByteArray), .int .i64 0] (0, 0) _ rfl (show _ from (by repeat (first | (with_reducible first | exact HP.out | apply number_parts.St.drewN | apply number_parts.St.drew | apply number_parts.St.setA0 | apply number_parts.St.setA | apply number_parts.St.setT) | exact (rfl : (_ : Array Value) = _)) : number_parts.St w _ gs gt ga s #[.bool false, .string (⟨#[]⟩ : ByteArray), .string (⟨#[]⟩ : ByteArray), .string (⟨#[]⟩ : ByteArray), .int .i64 0] _).ht) Try.underlying93 rfl (by kernel_rfl)) rfl ?_
 exact ⟨rfl, (by repeat (first | (with_reducible first | exact HP.out | apply number_parts.St.drewN | apply number_parts.St.drew | apply number_parts.St.setA0 | apply number_parts.St.setA | apply number_parts.St.setT) | exact (rfl : (_ : Array Value) = _)) : number_parts.St w _ gs gt ga s #[.bool false, .string (⟨#[]⟩ : ByteArray), .string (⟨#[]⟩ : ByteArray), .string (⟨#[]⟩ : ByteArray), .int .i64 0] _).b⟩

theorem number_parts.calls (a0 : ByteArray) (r1 : Bool) (r2 r3 r4 : ByteArray) (r5 : Int) (w : World) (h : number_parts.f a0 = some (r1, r2, r3, r4, r5)) :
  Calls Try.prog 64 #[.string a0] w fun e w' => e = .returned (.agg #[.bool r1, .string r2, .string r3, .string r4, .int .i64 r5]) ∧ Below w.heap.size w w' := by
 unfold number_parts.f at h; by_cases hs : a0.size ≤ 140737488351232
 ·rw [if_pos hs] at h; have b0 := number_parts.sgn_bd a0 0 (Nat.zero_le _); have b1 := number_parts.stop_bd a0 (number_parts.w0 a0) b0.2.1; have hsw := number_parts.cut_empty (s := a0) b1.1 b1.2; have hway := number_parts.dot_way a0 b1.2; have bp : number_parts.w1 a0 < a0.size → number_parts.w1 a0 + 1 ≤ number_parts.stop a0 (number_parts.w1 a0 + 1) ∧ number_parts.stop a0 (number_parts.w1 a0 + 1) ≤ a0.size := fun hl => number_parts.stop_bd a0 _ hl
  have hp : ((number_parts.part a0).toList == ([] : List UInt8)) = decide (number_parts.at2 a0 = number_parts.w1 a0) ∧ number_parts.at2 a0 ≤ a0.size := by
   have e0 : ((⟨#[]⟩ : ByteArray).toList == ([] : List UInt8)) = true := by rw [ByteArray.toList_eq]; rfl
   rcases hway with ⟨d1, d2, d3⟩ | ⟨d1, d2, d3, d4⟩ | ⟨d1, d2, d3, d4, d5, d6⟩ | ⟨d1, d2, d3, d4, d5, d6⟩
   ·rw [d2, d3, e0, dt_ rfl]; exact ⟨rfl, b1.2⟩
   ·rw [d3, d4, e0, dt_ rfl]; exact ⟨rfl, b1.2⟩
   ·rw [d4, d6, dt_ rfl]; exact ⟨rfl, b1.2⟩
   rw [d4, d6, df_ (by omega)]; exact ⟨rfl, (bp d1).2⟩
  have hsw' : ((a0.extract (number_parts.w0 a0) (number_parts.w1 a0)).toList == ([] : List UInt8)) = decide (number_parts.w0 a0 = number_parts.w1 a0) := hsw; by_cases hz : number_parts.w1 a0 = number_parts.w0 a0 ∧ number_parts.at2 a0 = number_parts.w1 a0
  ·rw [if_pos hz] at h; simp only [Option.some.injEq, Prod.mk.injEq] at h; obtain ⟨rfl, rfl, rfl, rfl, rfl⟩ := h; exact number_parts.walk0 a0 (a0.extract (number_parts.w0 a0) (number_parts.w1 a0)) (number_parts.part a0) _ ⟨#[]⟩ _ (number_parts.neg a0 (number_parts.at2 a0 + 1)) _ _ _ _ _ _ (number_parts.sgn a0 (number_parts.at2 a0 + 1)) _ 0 w hs rfl rfl b0.2.1 rfl b1.2 rfl rfl hway (fun _ => rfl) hp.2 rfl
    (by rw [hsw', hp.1, dt_ hz.1.symm, dt_ hz.2]; rfl) (fun _ => rfl) rfl (fun hl => (number_parts.sgn_bd a0 _ hl).2.1) (fun _ => rfl) rfl (fun hl => by have := number_parts.sgn_bd a0 (number_parts.at2 a0 + 1) hl; have := number_parts.stop_bd a0 _ this.2.1; omega)
  rw [if_neg hz] at h; simp only [Option.some.injEq, Prod.mk.injEq] at h; obtain ⟨rfl, rfl, rfl, rfl, rfl⟩ := h; have hE := number_parts.exp_way a0 hp.2; have k := number_parts.walk a0 (a0.extract (number_parts.w0 a0) (number_parts.w1 a0)) (number_parts.part a0) _ (if number_parts.hasE a0 = true then a0.extract (number_parts.at2 a0 + 1) (number_parts.x1 a0) else ⟨#[]⟩) _ (number_parts.neg a0 (number_parts.at2 a0 + 1)) _ _ _ _ _ _ _ _ (if number_parts.hasE a0 = true then number_parts.x1 a0 else number_parts.at2 a0) w hs rfl rfl b0.2.1 rfl b1.2 rfl rfl hway (fun _ => rfl) hp.2 rfl
   (by rw [hsw', hp.1]; exact Bool.and_eq_false_iff.2 ((Decidable.em (number_parts.w0 a0 = number_parts.w1 a0)).elim (fun h1 => .inr (df_ (fun h2 => hz ⟨h1.symm, h2⟩))) (fun h1 => .inl (df_ h1)))) hE (fun _ => rfl) rfl (fun hl => (number_parts.sgn_bd a0 _ hl).2.1) (fun _ => rfl) rfl (fun hl => by have := number_parts.sgn_bd a0 (number_parts.at2 a0 + 1) hl; have := number_parts.stop_bd a0 _ this.2.1; exact ⟨by unfold number_parts.x1 number_parts.x0; omega, this.2⟩)
  refine k.mono fun e w' hk => ⟨?_, hk.2⟩
  rw [hk.1]; cases number_parts.hasE a0 <;> rfl
 rw [if_neg hs] at h; cases h

end Go.Proofs.Ytofdhdafabmhmaa.PLr
end
