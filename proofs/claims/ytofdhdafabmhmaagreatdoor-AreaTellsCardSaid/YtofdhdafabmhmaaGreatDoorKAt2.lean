/- AreaTellsCardSaid, part 3 of 15: contracts of the program's functions, the words that they use, and the plain laws on what they compute. Conditions: none beyond what the statements say. -/
import Derived.Test.YtofdhdafabmhmaaGreatDoorKAt1
import Derived.Test.YtofdhdafabmhmaaGreatDoorProg
import Derived.Below
import Derived.Deep.Draws
import Derived.Deep.AppendLies
import Derived.Maps.AppendAt
import Derived.OwnWalk
import Derived.Laws.BytesArg
import Derived.Laws.MakeOwn
import Derived.Laws.OwnMore
import Derived.Deep.OwnRows
import Derived.Tactics
import Derived.Lib.ConvBytes
import Derived.Laws.Slices
import Derived.WalkKit
import Derived.KernelRfl
import Derived.RowKit3
import Derived.Deep.LoopGhost
import Derived.Deep.QuietTactic
import Derived.BigQuiet
import Derived.WideLaws
import Derived.Deep.DeepCutAuto
import Derived.Deep.CutBlock
import Derived.Deep.RegionHeld3
import Derived.Laws.Rows
import Derived.Lib.AppendStr
import Derived.ArgAppend
import Derived.Laws.IdiomCopy
import Derived.OrdersHeld
import Derived.Laws.BitsLemmas
import Derived.RowKit
import Derived.Test.YtofdhdafabmhmaaGreatDoorKAt0
import Derived.RangeFuncNested
import Derived.RangeFuncBound
import Derived.RangeFuncCalls
import Derived.RangeFuncLeaves
import Derived.Shelf.Abstract
import Derived.Lib.Strings
import Derived.Shelf.RegionOpen
import Derived.OwnWalkIn
import Derived.TacticsInMore
import Derived.LoopNIn
import Derived.LoopIn
import Derived.RangeFuncBox
import Derived.Maps.OwnIn
import Derived.Maps.Views
import Derived.StillTailTactics
import Derived.OrdersIn
import Derived.TacticsIn
set_option linter.unusedVariables false
set_option linter.unusedSimpArgs false
section
namespace Go.Proofs.YtofdhdafabmhmaaGreatDoor.PAr
open Go.RowKit Go.Proofs.YtofdhdafabmhmaaGreatDoorW.PrintWords Go.Proofs.YtofdhdafabmhmaaGreatDoorW.PrintLast Go.Proofs.YtofdhdafabmhmaaGreatDoorW.PrintMore
attribute [local go_sem] max2_int min2_int max_two min_two max_three min_three max_four min_four
open Go.Proofs.YtofdhdafabmhmaaGreatDoor.Opn Go.Proofs.YtofdhdafabmhmaaGreatDoor.Giv



def errW : Option Int → Value
 | none => .nilIface
 | some c => .iface 0 (.int .i64 c)
theorem errW_none : errW none = .nilIface := rfl
theorem errW_some (c : Int) : errW (some c) = .iface 0 (.int .i64 c) := rfl

theorem info5 : (Tryz.prog.info? 5).map (fun i => (i.zero, i.size, i.bytes)) = some (some (.int .u8 0), 1, 1) := by kernel_rfl
theorem info9 : (Tryz.prog.info? 9).map (fun i => (i.zero, i.size, i.bytes)) = some (some (.string ⟨#[]⟩), 1, 16) := by kernel_rfl
theorem info28 : (Tryz.prog.info? 28).map (fun i => (i.zero, i.size, i.bytes)) = some (some (.agg #[(.string ⟨#[]⟩), (.int .i64 0), (.int .i64 0), (.int .i64 0), (.int .i64 0)]), 5, 48) := by kernel_rfl
theorem info37 : (Tryz.prog.info? 37).map (fun i => (i.zero, i.size, i.bytes)) = some (some (.slice none 0 0), 1, 24) := by kernel_rfl
-- the values' own types
def rd_L1 (xs : List (List ByteArray)) (i : Int) : (List ByteArray) := xs.getD i.toNat ([] : List ByteArray)
theorem at_L1 {w : World} {A : Option Addr} {n : Nat} {xs : List (List ByteArray)} (h : Kd.C (Kd.slice 9 Kd.string) w A n xs) (i : Int) (h0 : 0 ≤ i) (h1 : i < n) : ∃ ad A0 c0, A = some ad ∧ w.cell? (ad.add i.toNat) = some (.slice A0 (rd_L1 xs i).length c0) ∧ (rd_L1 xs i).length ≤ c0 ∧ Kd.string.C w A0 (rd_L1 xs i).length (rd_L1 xs i) := by
 obtain ⟨ad, c, e, _, hK, hc0⟩ := Kd.C_get h ([] : List ByteArray) i h0 h1
 have hc : ∀ j u, c[j]? = some u → w.cell? (ad.add (i.toNat * 1 + j)) = some u := hc0
 obtain ⟨A0, c0, rfl, l0, g0⟩ := hK
 exact ⟨ad, A0, c0, e, by have hq := hc 0 _ rfl; rwa [Nat.mul_one, Nat.add_zero] at hq, l0, g0⟩

/-! #### struct type 28 -/
structure S28 where
 f0 : ByteArray
 f1 : Int
 f2 : Int
 f3 : Int
 f4 : Int
def z28 : S28 := ⟨(⟨#[]⟩ : ByteArray), (0 : Int), (0 : Int), (0 : Int), (0 : Int)⟩
def k28 : Kd S28 := Kd.iso (Kd.pair Kd.string (Kd.pair (Kd.int .i64) (Kd.pair (Kd.int .i64) (Kd.pair (Kd.int .i64) (Kd.int .i64))))) (fun x : S28 => (x.f0, x.f1, x.f2, x.f3, x.f4))
theorem k28_open {w : World} {x : S28} {cs : List Value} (h : k28.K w x cs) : cs = [.string x.f0, .int .i64 x.f1, .int .i64 x.f2, .int .i64 x.f3, .int .i64 x.f4] := by
 obtain ⟨_, _, rfl, rfl, ⟨_, _, rfl, rfl, ⟨_, _, rfl, rfl, ⟨_, _, rfl, rfl, rfl⟩⟩⟩⟩ := h
 exact rfl
theorem k28_mkM (w : World) (base : Nat) (ok : Nat → Prop) (x : S28)  : k28.M w base ok x [.string x.f0, .int .i64 x.f1, .int .i64 x.f2, .int .i64 x.f3, .int .i64 x.f4] := ⟨[.string x.f0], [.int .i64 x.f1, .int .i64 x.f2, .int .i64 x.f3, .int .i64 x.f4], rfl, rfl, ⟨[.int .i64 x.f1], [.int .i64 x.f2, .int .i64 x.f3, .int .i64 x.f4], rfl, rfl, ⟨[.int .i64 x.f2], [.int .i64 x.f3, .int .i64 x.f4], rfl, rfl, ⟨[.int .i64 x.f3], [.int .i64 x.f4], rfl, rfl, rfl⟩⟩⟩⟩
def rd_T28 (xs : List S28) (i : Int) : S28 := xs.getD i.toNat z28
theorem at_T28 {w : World} {A : Option Addr} {n : Nat} {xs : List S28} (h : Kd.C k28 w A n xs) (i : Int) (h0 : 0 ≤ i) (h1 : i < n) : ∃ ad , A = some ad ∧ w.cell? (ad.add (i.toNat * 5)) = some (.string (rd_T28 xs i).f0) ∧ w.cell? ⟨(ad.add (i.toNat * 5)).block, (ad.add (i.toNat * 5)).off + 1, none⟩ = some (.int .i64 (rd_T28 xs i).f1) ∧ w.cell? ⟨(ad.add (i.toNat * 5)).block, (ad.add (i.toNat * 5)).off + 2, none⟩ = some (.int .i64 (rd_T28 xs i).f2) ∧ w.cell? ⟨(ad.add (i.toNat * 5)).block, (ad.add (i.toNat * 5)).off + 3, none⟩ = some (.int .i64 (rd_T28 xs i).f3) ∧ w.cell? ⟨(ad.add (i.toNat * 5)).block, (ad.add (i.toNat * 5)).off + 4, none⟩ = some (.int .i64 (rd_T28 xs i).f4) := by
 obtain ⟨ad, c, e, _, hK, hc0⟩ := Kd.C_get h z28 i h0 h1
 have hc : ∀ j u, c[j]? = some u → w.cell? (ad.add (i.toNat * 5 + j)) = some u := hc0
 obtain rfl := k28_open hK
 exact ⟨ad, e, hc 0 _ rfl, by rw [← add_field _ _ 1 (by omega)]; exact hc 1 _ rfl, by rw [← add_field _ _ 2 (by omega)]; exact hc 2 _ rfl, by rw [← add_field _ _ 3 (by omega)]; exact hc 3 _ rfl, by rw [← add_field _ _ 4 (by omega)]; exact hc 4 _ rfl⟩

/-! #### struct type 62 -/
structure S62 where
 f0 : Int
 f1 : Int
 f2 : ByteArray
 f3 : ByteArray
def z62 : S62 := ⟨(0 : Int), (0 : Int), (⟨#[]⟩ : ByteArray), (⟨#[]⟩ : ByteArray)⟩
def k62 : Kd S62 := Kd.iso (Kd.pair (Kd.int .i64) (Kd.pair (Kd.int .i64) (Kd.pair Kd.string Kd.string))) (fun x : S62 => (x.f0, x.f1, x.f2, x.f3))
theorem k62_open {w : World} {x : S62} {cs : List Value} (h : k62.K w x cs) : cs = [.int .i64 x.f0, .int .i64 x.f1, .string x.f2, .string x.f3] := by
 obtain ⟨_, _, rfl, rfl, ⟨_, _, rfl, rfl, ⟨_, _, rfl, rfl, rfl⟩⟩⟩ := h
 exact rfl
theorem k62_mkM (w : World) (base : Nat) (ok : Nat → Prop) (x : S62)  : k62.M w base ok x [.int .i64 x.f0, .int .i64 x.f1, .string x.f2, .string x.f3] := ⟨[.int .i64 x.f0], [.int .i64 x.f1, .string x.f2, .string x.f3], rfl, rfl, ⟨[.int .i64 x.f1], [.string x.f2, .string x.f3], rfl, rfl, ⟨[.string x.f2], [.string x.f3], rfl, rfl, rfl⟩⟩⟩
def rd_T62 (xs : List S62) (i : Int) : S62 := xs.getD i.toNat z62
theorem at_T62 {w : World} {A : Option Addr} {n : Nat} {xs : List S62} (h : Kd.C k62 w A n xs) (i : Int) (h0 : 0 ≤ i) (h1 : i < n) : ∃ ad , A = some ad ∧ w.cell? (ad.add (i.toNat * 4)) = some (.int .i64 (rd_T62 xs i).f0) ∧ w.cell? ⟨(ad.add (i.toNat * 4)).block, (ad.add (i.toNat * 4)).off + 1, none⟩ = some (.int .i64 (rd_T62 xs i).f1) ∧ w.cell? ⟨(ad.add (i.toNat * 4)).block, (ad.add (i.toNat * 4)).off + 2, none⟩ = some (.string (rd_T62 xs i).f2) ∧ w.cell? ⟨(ad.add (i.toNat * 4)).block, (ad.add (i.toNat * 4)).off + 3, none⟩ = some (.string (rd_T62 xs i).f3) := by
 obtain ⟨ad, c, e, _, hK, hc0⟩ := Kd.C_get h z62 i h0 h1
 have hc : ∀ j u, c[j]? = some u → w.cell? (ad.add (i.toNat * 4 + j)) = some u := hc0
 obtain rfl := k62_open hK
 exact ⟨ad, e, hc 0 _ rfl, by rw [← add_field _ _ 1 (by omega)]; exact hc 1 _ rfl, by rw [← add_field _ _ 2 (by omega)]; exact hc 2 _ rfl, by rw [← add_field _ _ 3 (by omega)]; exact hc 3 _ rfl⟩

/-! #### struct type 134 -/
structure S134 where
 f0 : Bool
 f1 : ByteArray
 f2 : ByteArray
 f3 : ByteArray
 f4 : Int
end Go.Proofs.YtofdhdafabmhmaaGreatDoor.PAr
end
section
namespace Go.Proofs.YtofdhdafabmhmaaGreatDoor.PAr
open Go.RowKit Go.Proofs.YtofdhdafabmhmaaGreatDoorW.PrintWords Go.Proofs.YtofdhdafabmhmaaGreatDoorW.PrintLast Go.Proofs.YtofdhdafabmhmaaGreatDoorW.PrintMore
attribute [local go_sem] max2_int min2_int max_two min_two max_three min_three max_four min_four
open Go.Proofs.YtofdhdafabmhmaaGreatDoor.Opn Go.Proofs.YtofdhdafabmhmaaGreatDoor.Giv

theorem eqA28 (d : Nat) (w : World) (x0 y0 : ByteArray) (x1 y1 : Int) (x2 y2 : Int) (x3 y3 : Int) (x4 y4 : Int) :
  (Op.equalIn (d + 2) 28 (.agg #[.string x0, .int .i64 x1, .int .i64 x2, .int .i64 x3, .int .i64 x4]) (.agg #[.string y0, .int .i64 y1, .int .i64 y2, .int .i64 y3, .int .i64 y4])).run Tryz.prog w = .ok (x0.toList == y0.toList && (x1 == y1 && (x2 == y2 && (x3 == y3 && (x4 == y4))))) w := by
 refine eqA_of Tryz.underlying28 (by kernel_rfl) ?_
 refine eqf_cons (by rfl) (by go_simp; rfl) (by go_simp; rfl) (by go_simp) ?_
 refine eqf_cons (by rfl) (by go_simp; rfl) (by go_simp; rfl) (by go_simp) ?_
 refine eqf_cons (by rfl) (by go_simp; rfl) (by go_simp; rfl) (by go_simp) ?_
 refine eqf_cons (by rfl) (by go_simp; rfl) (by go_simp; rfl) (by go_simp) ?_
 exact eqf_last (by rfl) (by go_simp; rfl) (by go_simp; rfl) (by go_simp)
end Go.Proofs.YtofdhdafabmhmaaGreatDoor.PAr
end
section
namespace Go.Proofs.YtofdhdafabmhmaaGreatDoor.PAr
open Go.RowKit Go.Proofs.YtofdhdafabmhmaaGreatDoorW.PrintWords Go.Proofs.YtofdhdafabmhmaaGreatDoorW.PrintLast Go.Proofs.YtofdhdafabmhmaaGreatDoorW.PrintMore
attribute [local go_sem] max2_int min2_int max_two min_two max_three min_three max_four min_four
open Go.Proofs.YtofdhdafabmhmaaGreatDoor.Opn Go.Proofs.YtofdhdafabmhmaaGreatDoor.Giv

/-! ### parterrelaw08_Light: function 5 -/
mutual
def parterrelaw08_Light.l0 : Nat → Int → List (List ByteArray) → Int → Int → Option (Bool)
 | 0, _, _, _, _ => none
 | k + 1, x3, x8, x9, x10 => if x10 < x9 then (if 0 ≤ x10 then (if x10 < (x8.length : Int) then (if (wrap64 (x3 + (1 + (mn ((rd_L1 x8 x10).length : Int) 2000)))) > 1500 then (some false) else (parterrelaw08_Light.l1 k (wrap64 (x3 + (1 + (mn ((rd_L1 x8 x10).length : Int) 2000)))) x8 x9 x10 (rd_L1 x8 x10) ((rd_L1 x8 x10).length : Int) 0)) else (none)) else (none)) else (some true)
def parterrelaw08_Light.l1 : Nat → Int → List (List ByteArray) → Int → Int → List ByteArray → Int → Int → Option (Bool)
 | 0, _, _, _, _, _, _, _ => none
 | k + 1, x3, x8, x9, x10, x22, x23, x24 => if x24 < x23 then (if 0 ≤ x24 then (if x24 < (x22.length : Int) then (if ((rdOf ByteArray.empty x22 x24).size : Int) > 200 then (some false) else (parterrelaw08_Light.l1 k x3 x8 x9 x10 x22 x23 (wrap64 (x24 + 1)))) else (none)) else (none)) else (parterrelaw08_Light.l0 k x3 x8 x9 (wrap64 (x10 + 1)))
end
def parterrelaw08_Light.f (k : Nat) (l0 : List (List ByteArray)) : Option (Bool) := parterrelaw08_Light.l0 k 0 l0 (l0.length : Int) 0
theorem parterrelaw08_Light.mono_l : ∀ k, (∀ y0 y1 y2 y3, LeO (parterrelaw08_Light.l0 k y0 y1 y2 y3) (parterrelaw08_Light.l0 (k + 1) y0 y1 y2 y3)) ∧ (∀ y0 y1 y2 y3 y4 y5 y6, LeO (parterrelaw08_Light.l1 k y0 y1 y2 y3 y4 y5 y6) (parterrelaw08_Light.l1 (k + 1) y0 y1 y2 y3 y4 y5 y6))
 | 0 => ⟨fun _ _ _ _ r h => by simp [parterrelaw08_Light.l0] at h, fun _ _ _ _ _ _ _ r h => by simp [parterrelaw08_Light.l1] at h⟩
 | k + 1 => by
  obtain ⟨ih0, ih1⟩ := parterrelaw08_Light.mono_l k
  refine ⟨?_, ?_⟩
  ·intro y0 y1 y2 y3
   unfold parterrelaw08_Light.l0
   repeat' first
   | (with_reducible exact ih0 _ _ _ _)
   | (with_reducible exact ih1 _ _ _ _ _ _ _)
   | (with_reducible exact LeO.refl _)
   | (with_reducible exact LeO.none _)
   | (with_reducible refine LeO.ite ?_ ?_)
   | (with_reducible refine LeO.bind ?_ (fun _ => ?_))
  ·intro y0 y1 y2 y3 y4 y5 y6
   unfold parterrelaw08_Light.l1
   repeat' first
   | (with_reducible exact ih0 _ _ _ _)
   | (with_reducible exact ih1 _ _ _ _ _ _ _)
   | (with_reducible exact LeO.refl _)
   | (with_reducible exact LeO.none _)
   | (with_reducible refine LeO.ite ?_ ?_)
   | (with_reducible refine LeO.bind ?_ (fun _ => ?_))
theorem parterrelaw08_Light.mono : ∀ a0 k, LeO (parterrelaw08_Light.f k a0) (parterrelaw08_Light.f (k + 1) a0) := by
 intro a0 k
 obtain ⟨ih0, ih1⟩ := parterrelaw08_Light.mono_l k
 unfold parterrelaw08_Light.f
 repeat' first
   | (with_reducible exact ih0 _ _ _ _)
   | (with_reducible exact ih1 _ _ _ _ _ _ _)
   | (with_reducible exact LeO.refl _)
   | (with_reducible exact LeO.none _)
   | (with_reducible refine LeO.ite ?_ ?_)
   | (with_reducible refine LeO.bind ?_ (fun _ => ?_))
set_option maxHeartbeats 8000000 in
set_option maxRecDepth 100000 in
theorem parterrelaw08_Light.calls (k : Nat) (A0 : Option Addr) (c0 : Nat) (l0 : List (List ByteArray)) (r : Bool) (w : World) (hr0 : Kd.C (Kd.slice 9 Kd.string) w A0 l0.length l0) (hc0 : l0.length ≤ c0) (h : parterrelaw08_Light.f k l0 = some r) :
  Calls Tryz.prog 5 #[.slice A0 l0.length c0] w fun e w' => e = .returned (.bool r) ∧ Below w.heap.size w w' := by
 have HR0 := Aside0.mk hr0
 have HC0 := Aside0.mk hc0
 clear hr0 hc0
 have HB := Aside0.mk (Below.refl w.heap.size w)
 have H : (parterrelaw08_Light.l0 k 0 l0 (l0.length : Int) 0) = some r := h
 clear h
 have H' := Aside0.mk H
 clear H
 go_enter Tryz.func5, Tryz.ntmps5
 go_wp2
 go_loopg [3, 10] k (fun kq v3 v10 w' => ∃ (x3_1 : Int) (x10_1 : Int), v3 = .int .i64 x3_1 ∧ v10 = .int .i64 x10_1 ∧ Aside0 (parterrelaw08_Light.l0 kq x3_1 l0 (l0.length : Int) x10_1 = some r) ∧ Aside0 (kq ≤ k) ∧ Aside0 (Below w.heap.size w w'))
 case atStart => exact ⟨(0), (0), rfs_, rfs_, H', ⟨Nat.le_refl _⟩, ⟨bel_⟩⟩
 case round =>
  clear H'
  obtain ⟨x3_1, x10_1, rfl, rfl, HA, HK1, HB⟩ := hrel
  cases gk with
  | zero => exact absurd HA.out (by simp [parterrelaw08_Light.l0])
  | succ k1 =>
   have H := HA.out
   clear HA
   simp only [parterrelaw08_Light.l0] at H
   by_cases c2 : x10_1 < (l0.length : Int)
   ·rw [if_pos c2] at H
    have c2b0 : decide (x10_1 < (l0.length : Int)) = true := decide_eq_true c2
    clear c2
    by_cases c3 : 0 ≤ x10_1
    ·rw [if_pos c3] at H
     have c3b0 : decide (0 ≤ x10_1) = true := decide_eq_true c3
     clear c3
     by_cases c4 : x10_1 < (l0.length : Int)
     ·rw [if_pos c4] at H
      have c4b0 : decide (x10_1 < (l0.length : Int)) = true := decide_eq_true c4
      clear c4
      obtain ⟨ji5, hji5⟩ : ∃ j_ : Int, (mn ((rd_L1 l0 x10_1).length : Int) 2000) = j_ := ⟨_, rfl⟩
      replace H : (if (wrap64 (x3_1 + (1 + (ji5)))) > 1500 then (some false) else (parterrelaw08_Light.l1 k1 (wrap64 (x3_1 + (1 + (ji5)))) l0 (l0.length : Int) x10_1 (rd_L1 l0 x10_1) ((rd_L1 l0 x10_1).length : Int) 0)) = some r := by first | (rw [hji5] at H; exact H) | (simp only [hji5] at H ⊢; exact H)
      have hji5_ : (if 2000 < ((rd_L1 l0 x10_1).length : Int) then 2000 else ((rd_L1 l0 x10_1).length : Int)) = ji5 := hji5
      by_cases c6 : (wrap64 (x3_1 + (1 + (ji5)))) > 1500
      ·rw [if_pos c6] at H
       have c6b0 : decide (1500 < (wrap64 (x3_1 + (1 + (ji5))))) = true := decide_eq_true c6
       clear c6
       obtain rfl := Option.some.inj H
       have p101 : 0 ≤ (x10_1 : Int) := of_decide_eq_true (by first | (with_reducible assumption) | assumption)
       have q101 : x10_1 < (l0.length : Int) := of_decide_eq_true (by first | (with_reducible assumption) | assumption)
       obtain ⟨ad101, A101_0, c101_0, e101, hx101_0, hl101_0, hi101_0⟩ := at_L1 HR0.out x10_1 p101 q101
       cases e101
       replace hx101_0 := (HB.out.cell (World.block_lt_of_cell? w _ hx101_0)).trans hx101_0
       have HR101_0 := Aside0.mk hi101_0
       have HC101_0 := Aside0.mk hl101_0
       clear hi101_0 hl101_0
       replace p101 := eq_true p101
       replace q101 := eq_true q101
       go_wp2
       go_ret
       exact ⟨by first | rfl | (simp [errW_none, errW_some] <;> rfl) | (simp only [← hji5]; first | rfl | (simp [errW_none, errW_some] <;> rfl)) | (simp [*, errW_none, errW_some] <;> rfl), bel_⟩
      ·rw [if_neg c6] at H
       have c6b0 : decide (1500 < (wrap64 (x3_1 + (1 + (ji5))))) = false := decide_eq_false c6
       clear c6
       have H' := Aside0.mk H
       clear H
       have p101 : 0 ≤ (x10_1 : Int) := of_decide_eq_true (by first | (with_reducible assumption) | assumption)
       have q101 : x10_1 < (l0.length : Int) := of_decide_eq_true (by first | (with_reducible assumption) | assumption)
       obtain ⟨ad101, A101_0, c101_0, e101, hx101_0, hl101_0, hi101_0⟩ := at_L1 HR0.out x10_1 p101 q101
       cases e101
       replace hx101_0 := (HB.out.cell (World.block_lt_of_cell? w _ hx101_0)).trans hx101_0
       have HR101_0 := Aside0.mk hi101_0
       have HC101_0 := Aside0.mk hl101_0
       clear hi101_0 hl101_0
       replace p101 := eq_true p101
       replace q101 := eq_true q101
       go_wp2
       go_loopg [24] k1 (fun kq v24 w' => ∃ (x24_2 : Int), v24 = .int .i64 x24_2 ∧ Aside0 (parterrelaw08_Light.l1 kq (wrap64 (x3_1 + (1 + (ji5)))) l0 (l0.length : Int) x10_1 (rd_L1 l0 x10_1) ((rd_L1 l0 x10_1).length : Int) x24_2 = some r) ∧ Aside0 (kq ≤ k1) ∧ Aside0 (Below w.heap.size w w'))
       case atStart => exact ⟨(0), rfs_, H', ⟨Nat.le_refl _⟩, ⟨bel_⟩⟩
       case round =>
        clear H'
        try clear c2b0
        try clear c3b0
        try clear c4b0
        try clear c6b0
        try clear hx101_0
        try clear p101
        try clear q101
        obtain ⟨x24_2, rfl, HA, HK2, HB⟩ := hrel
        cases gk with
        | zero => exact absurd HA.out (by simp [parterrelaw08_Light.l1])
        | succ k2 =>
         have H := HA.out
         clear HA
         simp only [parterrelaw08_Light.l1] at H
         by_cases c7 : x24_2 < ((rd_L1 l0 x10_1).length : Int)
         ·rw [if_pos c7] at H
          have c7b0 : decide (x24_2 < ((rd_L1 l0 x10_1).length : Int)) = true := decide_eq_true c7
          clear c7
          by_cases c8 : 0 ≤ x24_2
          ·rw [if_pos c8] at H
           have c8b0 : decide (0 ≤ x24_2) = true := decide_eq_true c8
           clear c8
           by_cases c9 : x24_2 < ((rd_L1 l0 x10_1).length : Int)
           ·rw [if_pos c9] at H
            have c9b0 : decide (x24_2 < ((rd_L1 l0 x10_1).length : Int)) = true := decide_eq_true c9
            clear c9
            by_cases c10 : ((rdOf ByteArray.empty (rd_L1 l0 x10_1) x24_2).size : Int) > 200
            ·rw [if_pos c10] at H
             have c10b0 : decide (200 < ((rdOf ByteArray.empty (rd_L1 l0 x10_1) x24_2).size : Int)) = true := decide_eq_true c10
             have c10b1 : decide (200 < (rdOf ByteArray.empty (rd_L1 l0 x10_1) x24_2).size) = true := decide_eq_true (by omega)
             clear c10
             obtain rfl := Option.some.inj H
             have p102 : 0 ≤ (x24_2 : Int) := of_decide_eq_true (by first | (with_reducible assumption) | assumption)
             have q102 : x24_2 < ((rd_L1 l0 x10_1).length : Int) := of_decide_eq_true (by first | (with_reducible assumption) | assumption)
             obtain ⟨ad102, e102, hx102_0⟩ := Kd.at_string HR101_0.out x24_2 p102 q102
             cases e102
             replace hx102_0 := (HB.out.cell (World.block_lt_of_cell? w _ hx102_0)).trans hx102_0
             replace p102 := eq_true p102
             replace q102 := eq_true q102
             go_wp2
             go_ret
             exact ⟨by first | rfl | (simp [errW_none, errW_some] <;> rfl) | (simp only [← hji5]; first | rfl | (simp [errW_none, errW_some] <;> rfl)) | (simp [*, errW_none, errW_some] <;> rfl), bel_⟩
            ·rw [if_neg c10] at H
             have c10b0 : decide (200 < ((rdOf ByteArray.empty (rd_L1 l0 x10_1) x24_2).size : Int)) = false := decide_eq_false c10
             have c10b1 : decide (200 < (rdOf ByteArray.empty (rd_L1 l0 x10_1) x24_2).size) = false := decide_eq_false (by omega)
             clear c10
             have H' := Aside0.mk H
             clear H
             have p102 : 0 ≤ (x24_2 : Int) := of_decide_eq_true (by first | (with_reducible assumption) | assumption)
             have q102 : x24_2 < ((rd_L1 l0 x10_1).length : Int) := of_decide_eq_true (by first | (with_reducible assumption) | assumption)
             obtain ⟨ad102, e102, hx102_0⟩ := Kd.at_string HR101_0.out x24_2 p102 q102
             cases e102
             replace hx102_0 := (HB.out.cell (World.block_lt_of_cell? w _ hx102_0)).trans hx102_0
             replace p102 := eq_true p102
             replace q102 := eq_true q102
             go_wp2
             go_roundg k2
             case measure => have := HK1.out; have := HK2.out; omega
             case rel => exact ⟨(wrap64 (x24_2 + 1)), rfs_, H', ⟨by have := HK1.out; have := HK2.out; omega⟩, ⟨bel_⟩⟩
           ·rw [if_neg c9] at H
            exact absurd H (by simp)
          ·rw [if_neg c8] at H
           exact absurd H (by simp)
         ·rw [if_neg c7] at H
          have c7b0 : decide (x24_2 < ((rd_L1 l0 x10_1).length : Int)) = false := decide_eq_false c7
          clear c7
          have H' := Aside0.mk H
          clear H
          go_wp2
          go_roundg k2
          case measure => have := HK1.out; have := HK2.out; omega
          case rel => exact ⟨((wrap64 (x3_1 + (1 + (ji5))))), (wrap64 (x10_1 + 1)), (by first | rfl | (simp; done) | (simp only [← hji5] <;> (first | rfl | simp)) | (simp [*]; done)), rfs_, H', ⟨by have := HK1.out; have := HK2.out; omega⟩, ⟨bel_⟩⟩
     ·rw [if_neg c4] at H
      exact absurd H (by simp)
    ·rw [if_neg c3] at H
     exact absurd H (by simp)
   ·rw [if_neg c2] at H
    have c2b0 : decide (x10_1 < (l0.length : Int)) = false := decide_eq_false c2
    clear c2
    obtain rfl := Option.some.inj H
    go_wp2
    go_ret
    exact ⟨rsl_, bel_⟩

/-! ### token_Letter: function 50 -/
def token_Letter.f (a0 : Int) : Option (Bool) := if a0 ≥ 97 then (if a0 ≤ 122 then (some true) else (if a0 ≥ 65 then (if a0 ≤ 90 then (some true) else (if a0 = 95 then (some true) else (some (decide (a0 ≥ 128))))) else (if a0 = 95 then (some true) else (some (decide (a0 ≥ 128)))))) else (if a0 ≥ 65 then (if a0 ≤ 90 then (some true) else (if a0 = 95 then (some true) else (some (decide (a0 ≥ 128))))) else (if a0 = 95 then (some true) else (some (decide (a0 ≥ 128)))))
set_option maxHeartbeats 8000000 in
set_option maxRecDepth 100000 in
theorem token_Letter.calls (a0 : Int) (r : Bool) (w : World) (h : token_Letter.f a0 = some r) :
  Calls Tryz.prog 50 #[.int .u8 a0] w fun e w' => e = .returned (.bool r) ∧ Drawn0 w w' := by
 have H : (if a0 ≥ 97 then (if a0 ≤ 122 then (some true) else (if a0 ≥ 65 then (if a0 ≤ 90 then (some true) else (if a0 = 95 then (some true) else (some (decide (a0 ≥ 128))))) else (if a0 = 95 then (some true) else (some (decide (a0 ≥ 128)))))) else (if a0 ≥ 65 then (if a0 ≤ 90 then (some true) else (if a0 = 95 then (some true) else (some (decide (a0 ≥ 128))))) else (if a0 = 95 then (some true) else (some (decide (a0 ≥ 128)))))) = some r := h
 clear h
 by_cases c2 : a0 ≥ 97
 ·rw [if_pos c2] at H
  have c2b0 : decide (97 ≤ a0) = true := decide_eq_true c2
  clear c2
  by_cases c3 : a0 ≤ 122
  ·rw [if_pos c3] at H
   have c3b0 : decide (a0 ≤ 122) = true := decide_eq_true c3
   clear c3
   obtain rfl := Option.some.inj H
   go_enter Tryz.func50, Tryz.ntmps50
   go_wp2
   go_ret
   exact ⟨by first | rfl | (simp; done) | (simp [*]; done), drs_⟩
  ·rw [if_neg c3] at H
   have c3b0 : decide (a0 ≤ 122) = false := decide_eq_false c3
   clear c3
   by_cases c4 : a0 ≥ 65
   ·rw [if_pos c4] at H
    have c4b0 : decide (65 ≤ a0) = true := decide_eq_true c4
    clear c4
    by_cases c5 : a0 ≤ 90
    ·rw [if_pos c5] at H
     have c5b0 : decide (a0 ≤ 90) = true := decide_eq_true c5
     clear c5
     obtain rfl := Option.some.inj H
     go_enter Tryz.func50, Tryz.ntmps50
     go_wp2
     go_ret
     exact ⟨by first | rfl | (simp; done) | (simp [*]; done), drs_⟩
    ·rw [if_neg c5] at H
     have c5b0 : decide (a0 ≤ 90) = false := decide_eq_false c5
     clear c5
     by_cases c6 : a0 = 95
     ·rw [if_pos c6] at H
      have c6b0 : (a0 == 95) = true := beq_iff_eq.mpr c6
      have c6b1 : (a0 != 95) = false := bne_eq_false_iff_eq.mpr c6
      clear c6
      obtain rfl := Option.some.inj H
      go_enter Tryz.func50, Tryz.ntmps50
      go_wp2
      go_ret
      exact ⟨by first | rfl | (simp; done) | (simp [*]; done), drs_⟩
     ·rw [if_neg c6] at H
      have c6b0 : (a0 == 95) = false := beq_eq_false_iff_ne.mpr c6
      have c6b1 : (a0 != 95) = true := bne_iff_ne.mpr c6
      obtain rfl := Option.some.inj H
      go_enter Tryz.func50, Tryz.ntmps50
      go_wp2
      go_ret
      exact ⟨by first | rfl | (simp; done) | (simp [*]; done), drs_⟩
   ·rw [if_neg c4] at H
    have c4b0 : decide (65 ≤ a0) = false := decide_eq_false c4
    clear c4
    by_cases c7 : a0 = 95
    ·rw [if_pos c7] at H
     have c7b0 : (a0 == 95) = true := beq_iff_eq.mpr c7
     have c7b1 : (a0 != 95) = false := bne_eq_false_iff_eq.mpr c7
     clear c7
     obtain rfl := Option.some.inj H
     go_enter Tryz.func50, Tryz.ntmps50
     go_wp2
     go_ret
     exact ⟨by first | rfl | (simp; done) | (simp [*]; done), drs_⟩
    ·rw [if_neg c7] at H
     have c7b0 : (a0 == 95) = false := beq_eq_false_iff_ne.mpr c7
     have c7b1 : (a0 != 95) = true := bne_iff_ne.mpr c7
     obtain rfl := Option.some.inj H
     go_enter Tryz.func50, Tryz.ntmps50
     go_wp2
     go_ret
     exact ⟨by first | rfl | (simp; done) | (simp [*]; done), drs_⟩
 ·rw [if_neg c2] at H
  have c2b0 : decide (97 ≤ a0) = false := decide_eq_false c2
  clear c2
  by_cases c8 : a0 ≥ 65
  ·rw [if_pos c8] at H
   have c8b0 : decide (65 ≤ a0) = true := decide_eq_true c8
   clear c8
   by_cases c9 : a0 ≤ 90
   ·rw [if_pos c9] at H
    have c9b0 : decide (a0 ≤ 90) = true := decide_eq_true c9
    clear c9
    obtain rfl := Option.some.inj H
    go_enter Tryz.func50, Tryz.ntmps50
    go_wp2
    go_ret
    exact ⟨by first | rfl | (simp; done) | (simp [*]; done), drs_⟩
   ·rw [if_neg c9] at H
    have c9b0 : decide (a0 ≤ 90) = false := decide_eq_false c9
    clear c9
    by_cases c10 : a0 = 95
    ·rw [if_pos c10] at H
     have c10b0 : (a0 == 95) = true := beq_iff_eq.mpr c10
     have c10b1 : (a0 != 95) = false := bne_eq_false_iff_eq.mpr c10
     clear c10
     obtain rfl := Option.some.inj H
     go_enter Tryz.func50, Tryz.ntmps50
     go_wp2
     go_ret
     exact ⟨by first | rfl | (simp; done) | (simp [*]; done), drs_⟩
    ·rw [if_neg c10] at H
     have c10b0 : (a0 == 95) = false := beq_eq_false_iff_ne.mpr c10
     have c10b1 : (a0 != 95) = true := bne_iff_ne.mpr c10
     obtain rfl := Option.some.inj H
     go_enter Tryz.func50, Tryz.ntmps50
     go_wp2
     go_ret
     exact ⟨by first | rfl | (simp; done) | (simp [*]; done), drs_⟩
  ·rw [if_neg c8] at H
   have c8b0 : decide (65 ≤ a0) = false := decide_eq_false c8
   clear c8
   by_cases c11 : a0 = 95
   ·rw [if_pos c11] at H
    have c11b0 : (a0 == 95) = true := beq_iff_eq.mpr c11
    have c11b1 : (a0 != 95) = false := bne_eq_false_iff_eq.mpr c11
    clear c11
    obtain rfl := Option.some.inj H
    go_enter Tryz.func50, Tryz.ntmps50
    go_wp2
    go_ret
    exact ⟨by first | rfl | (simp; done) | (simp [*]; done), drs_⟩
   ·rw [if_neg c11] at H
    have c11b0 : (a0 == 95) = false := beq_eq_false_iff_ne.mpr c11
    have c11b1 : (a0 != 95) = true := bne_iff_ne.mpr c11
    obtain rfl := Option.some.inj H
    go_enter Tryz.func50, Tryz.ntmps50
    go_wp2
    go_ret
    exact ⟨by first | rfl | (simp; done) | (simp [*]; done), drs_⟩

/-! ### area_inner: function 27 -/
def area_inner.f (a0 : Int) : Option (Bool) := (token_Letter.f a0).bind fun t103 => (if t103 = true then (some true) else (if a0 ≥ 48 then (if a0 ≤ 57 then (some true) else (some (a0 == 45))) else (some (a0 == 45))))
set_option maxHeartbeats 8000000 in
set_option maxRecDepth 100000 in
theorem area_inner.calls (a0 : Int) (r : Bool) (w : World) (h : area_inner.f a0 = some r) :
  Calls Tryz.prog 27 #[.int .u8 a0] w fun e w' => e = .returned (.bool r) ∧ Drawn0 w w' := by
 have H : ((token_Letter.f a0).bind fun t103 => (if t103 = true then (some true) else (if a0 ≥ 48 then (if a0 ≤ 57 then (some true) else (some (a0 == 45))) else (some (a0 == 45))))) = some r := h
 clear h
 replace H := Option.bind_eq_some_iff.mp H
 obtain ⟨t103, A20, H⟩ := H
 try dsimp only at H
 have A2 := Aside0.mk A20
 clear A20
 by_cases c3 : t103 = true
 ·subst c3
  rw [if_pos rfl] at H
  obtain rfl := Option.some.inj H
  go_enter Tryz.func27, Tryz.ntmps27
  go_wp2_with (first | ((with_reducible refine gate_callee (f := 50) rfl ?_); refine goesL_ (some 4) rfl rfl Tryz.func50 (by kernel_rfl) rfl #[.int .u8 a0] rfl goa_ ?_; (with_reducible refine (token_Letter.calls a0 true _ A2.out).mono ?_); rintro e w' ⟨rfl, ⟨nd, rfl⟩⟩; refine ⟨_, rfl, ?_⟩))
  go_ret
  exact ⟨by first | rfl | (simp; done) | (simp [*]; done), drs_⟩
 ·replace c3 := Bool.eq_false_iff.mpr c3
  subst c3
  rw [if_neg (show ¬ (false = true) by decide)] at H
  by_cases c4 : a0 ≥ 48
  ·rw [if_pos c4] at H
   have c4b0 : decide (48 ≤ a0) = true := decide_eq_true c4
   clear c4
   by_cases c5 : a0 ≤ 57
   ·rw [if_pos c5] at H
    have c5b0 : decide (a0 ≤ 57) = true := decide_eq_true c5
    clear c5
    obtain rfl := Option.some.inj H
    go_enter Tryz.func27, Tryz.ntmps27
    go_wp2_with (first | ((with_reducible refine gate_callee (f := 50) rfl ?_); refine goesL_ (some 4) rfl rfl Tryz.func50 (by kernel_rfl) rfl #[.int .u8 a0] rfl goa_ ?_; (with_reducible refine (token_Letter.calls a0 false _ A2.out).mono ?_); rintro e w' ⟨rfl, ⟨nd, rfl⟩⟩; refine ⟨_, rfl, ?_⟩))
    go_ret
    exact ⟨by first | rfl | (simp; done) | (simp [*]; done), drs_⟩
   ·rw [if_neg c5] at H
    have c5b0 : decide (a0 ≤ 57) = false := decide_eq_false c5
    clear c5
    obtain rfl := Option.some.inj H
    go_enter Tryz.func27, Tryz.ntmps27
    go_wp2_with (first | ((with_reducible refine gate_callee (f := 50) rfl ?_); refine goesL_ (some 4) rfl rfl Tryz.func50 (by kernel_rfl) rfl #[.int .u8 a0] rfl goa_ ?_; (with_reducible refine (token_Letter.calls a0 false _ A2.out).mono ?_); rintro e w' ⟨rfl, ⟨nd, rfl⟩⟩; refine ⟨_, rfl, ?_⟩))
    go_ret
    exact ⟨by first | rfl | (simp; done) | (simp [*]; done), drs_⟩
  ·rw [if_neg c4] at H
   have c4b0 : decide (48 ≤ a0) = false := decide_eq_false c4
   clear c4
   obtain rfl := Option.some.inj H
   go_enter Tryz.func27, Tryz.ntmps27
   go_wp2_with (first | ((with_reducible refine gate_callee (f := 50) rfl ?_); refine goesL_ (some 4) rfl rfl Tryz.func50 (by kernel_rfl) rfl #[.int .u8 a0] rfl goa_ ?_; (with_reducible refine (token_Letter.calls a0 false _ A2.out).mono ?_); rintro e w' ⟨rfl, ⟨nd, rfl⟩⟩; refine ⟨_, rfl, ?_⟩))
   go_ret
   exact ⟨by first | rfl | (simp; done) | (simp [*]; done), drs_⟩

/-! ### area_point: function 97 -/
def area_point.f (a0 : Int) : Option (Bool) := some (a0 == 46)
set_option maxHeartbeats 8000000 in
set_option maxRecDepth 100000 in
theorem area_point.calls (a0 : Int) (r : Bool) (w : World) (h : area_point.f a0 = some r) :
  Calls Tryz.prog 97 #[.int .u8 a0] w fun e w' => e = .returned (.bool r) ∧ Drawn0 w w' := by
 have H : (some (a0 == 46)) = some r := h
 clear h
 obtain rfl := Option.some.inj H
 go_enter Tryz.func97, Tryz.ntmps97
 go_wp2
 go_ret
 exact ⟨by first | rfl | (simp; done) | (simp [*]; done), drs_⟩

end Go.Proofs.YtofdhdafabmhmaaGreatDoor.PAr
end
section
/- area.each: the iterator over all cells that have names: its contract (rows are read between two rounds). -/
namespace Go.Proofs.YtofdhdafabmhmaaGreatDoor.Giv
open Go.RowKit Go.Shelf Go.Proofs.YtofdhdafabmhmaaGreatDoorW.PrintWords Go.Proofs.YtofdhdafabmhmaaGreatDoorW.PrintLast Go.Proofs.YtofdhdafabmhmaaGreatDoorW.PrintMore
open Go.Proofs.YtofdhdafabmhmaaGreatDoor.Opn Go.Proofs.YtofdhdafabmhmaaGreatDoor.PAr
/-- All cells that have names, row by row: the name, the row, the column. -/
def area_boxes.row (r : Nat) : List ByteArray → Nat → List (ByteArray × Int × Int)
  | [], _ => []
  | s :: l, c => if s.size = 0 then area_boxes.row r l (c + 1) else (s, (r : Int), (c : Int)) :: area_boxes.row r l (c + 1)
def area_boxes.cells : List (List ByteArray) → Nat → List (ByteArray × Int × Int)
  | [], _ => []
  | l :: ls, r => area_boxes.row r l 0 ++ area_boxes.cells ls (r + 1)
/-- A cell whose name can be a key. -/
abbrev ArCell := { x : ByteArray × Int × Int // x.1.size ≤ maxLen }
def ArCell.enc (x : ArCell) : Array Value := #[.agg #[.string x.1.1, .int .i64 x.1.2.1, .int .i64 x.1.2.2, .int .i64 1, .int .i64 1], .string x.1.1]
theorem ar_row_drop (r : Nat) (l : List ByteArray) (j : Nat) (h : j < l.length) : area_boxes.row r (l.drop j) j = (if (l.getD j ByteArray.empty).size = 0 then [] else [(l.getD j ByteArray.empty, (r : Int), (j : Int))]) ++ area_boxes.row r (l.drop (j + 1)) (j + 1) := by
  rw [List.drop_eq_getElem_cons h, area_boxes.row, List.getD_eq_getElem?_getD, List.getElem?_eq_getElem h]
  simp only [Option.getD_some]
  split <;> simp
theorem ar_cells_drop (l0 : List (List ByteArray)) (i : Nat) (h : i < l0.length) : area_boxes.cells (l0.drop i) i = area_boxes.row i (l0.getD i []) 0 ++ area_boxes.cells (l0.drop (i + 1)) (i + 1) := by
  rw [List.drop_eq_getElem_cons h, area_boxes.cells, List.getD_eq_getElem?_getD, List.getElem?_eq_getElem h]
  simp only [Option.getD_some]
attribute [local go_sem] Oper.semAt_some
set_option maxRecDepth 100000 in
set_option maxHeartbeats 4000000 in
theorem ar_each1_in (F : Fence) (n : Nat) (h82 : F.fn 87) (hro : F.round = none) (hn : 1 ≤ n) (l Bn : Nat) (A0 : Option Addr) (c0 : Nat) (l0 : List (List ByteArray)) (w0 : World)
    (hC : Kd.C (Kd.slice 9 Kd.string) w0 A0 l0.length l0) (hc0 : l0.length ≤ c0) (hL : l0.length < 1000000) (hL2 : ∀ l ∈ l0, l.length < 1000000)
    (xs : List ArCell) (hxs : xs.map (·.1) = area_boxes.cells l0 0) (J Jx : List ArCell → World → Prop)
    (hY : ∀ pre x W, J pre W → pre.length < xs.length → YieldAt F (n - 1) Tryz.prog l (ArCell.enc x) W fun e W' =>
      (e = .returned (.bool true) ∧ J (pre ++ [x]) W' ∧ Below w0.heap.size W W') ∨ (e = .returned (.bool false) ∧ Jx (pre ++ [x]) W'))
    (W : World) (hBn : W.cell? ⟨Bn, 0, none⟩ = some (.slice A0 l0.length c0)) (hB : Below w0.heap.size w0 W) (h0 : J [] W) :
    CallsIn F n Tryz.prog 87 #[.func (.yield l) #[] #[], .pointer (some ⟨Bn, 0, none⟩)] W fun e W' => (∃ v, e = .returned v) ∧
      ((∃ ys, ys = xs ∧ J ys W') ∨ (∃ pre, pre <+: xs ∧ Jx pre W')) := by
  refine callsIn_of_wp Tryz.func87 rfl h82 ?_ hro
  simp only [Tryz.ntmps87, List.size_toArray, List.length_cons, List.length_nil, Nat.reduceAdd, Nat.reduceSub, Array.replicate_succ, Array.replicate_zero, List.push_toArray, List.append_toArray, List.nil_append, List.cons_append]
  gi_wp2
  gi_loopw [9] (fun v9 wr => ∃ (i : Nat) (pre rest : List ArCell), i ≤ l0.length ∧ v9 = .int .i64 i ∧ xs = pre ++ rest ∧ rest.map (·.1) = area_boxes.cells (l0.drop i) i ∧ J pre wr ∧ Below w0.heap.size w0 wr)
    (fun v9 _ => l0.length - (intOf v9).toNat)
  case atStart => exact ⟨0, [], xs, Nat.zero_le _, rfl, rfl, hxs, h0, hB⟩
  case round =>
    obtain ⟨i, pre, rest, hi, rfl, hx, hr, hJs, hb⟩ := hrel
    by_cases hlt : i < l0.length
    · obtain ⟨ad, A1, c1, rfl, hx1, hl1, hi1⟩ := at_L1 hC (i : Int) (by omega) (by omega)
      replace hx1 := pw_cell_below hb hx1
      obtain ⟨row, hrow⟩ : ∃ row, rd_L1 l0 (i : Int) = row := ⟨_, rfl⟩
      have hrm : row.length < 1000000 := by
        rw [← hrow]
        refine hL2 _ ?_
        unfold rd_L1
        rw [Int.toNat_natCast, List.getD_eq_getElem?_getD, List.getElem?_eq_getElem hlt]
        exact List.getElem_mem _
      have hrd : l0.getD i [] = row := hrow
      rw [hrow] at hx1 hl1 hi1
      rw [ar_cells_drop l0 i hlt, hrd] at hr
      rw [Int.toNat_natCast] at hx1
      have HI := Aside0.mk hi1
      clear hi1
      gi_wp2
      gi_loopw [16] (fun v16 wq => ∃ (j : Nat) (pre1 rest1 : List ArCell), j ≤ row.length ∧ v16 = .int .i64 j ∧ xs = pre1 ++ rest1 ∧ rest1.map (·.1) = area_boxes.row i (row.drop j) j ++ area_boxes.cells (l0.drop (i + 1)) (i + 1) ∧ J pre1 wq ∧ Below w0.heap.size w0 wq)
        (fun v16 _ => row.length - (intOf v16).toNat)
      case atStart => exact ⟨0, pre, rest, Nat.zero_le _, rfl, hx, hr, hJs, hb⟩
      case round =>
        obtain ⟨j, pre1, rest1, hj, rfl, hx2, hr1, hJ1, hb1⟩ := hrel
        by_cases hjt : j < row.length
        · obtain ⟨ad1, rfl, hy1⟩ := Kd.at_string (Kd.C_below HI.out hb1) (j : Int) (by omega) (by omega)
          rw [ar_row_drop i row j hjt, show row.getD j ByteArray.empty = rdOf ByteArray.empty row (j : Int) from rfl] at hr1
          revert hy1 hr1
          generalize rdOf ByteArray.empty row (j : Int) = s
          intro hr1 hy1
          rw [Int.toNat_natCast] at hy1
          by_cases hs : s.size = 0
          · obtain rfl : s = ⟨#[]⟩ := by
              obtain ⟨d⟩ := s
              obtain rfl : d = #[] := Array.size_eq_zero_iff.1 hs
              rfl
            rw [if_pos hs, List.nil_append] at hr1
            gi_wp2
            refine ⟨fun _ h => (by cases h), ?_⟩
            gi_wp2
            go_roundw
            case rel => exact ⟨j + 1, pre1, rest1, by omega, by simp, hx2, hr1, hJ1, hb1⟩
            case measure => simp [intOf]; omega
          · rw [if_neg hs] at hr1
            cases rest1 with
            | nil => simp at hr1
            | cons x rest2 =>
              obtain ⟨⟨xn, xr, xc⟩, hxb⟩ := x
              simp only [List.map_cons, List.cons_append, List.nil_append, List.cons.injEq, Prod.mk.injEq] at hr1
              obtain ⟨⟨rfl, rfl, rfl⟩, hr2⟩ := hr1
              obtain ⟨fn, tmps, assign, body, hy, hR⟩ := hY pre1 ⟨(xn, (i : Int), (j : Int)), hxb⟩ wr hJ1 (by rw [hx2]; simp)
              simp only [ArCell.enc] at hy
              have e0 : xn.toList ≠ ([] : List UInt8) := by
                intro h
                apply hs
                show xn.data.size = 0
                rw [← Array.length_toList, ← Go.Lib.toList_data, h]
                rfl
              have e1 : (xn.toList == ([] : List UInt8)) = false := beq_eq_false_iff_ne.2 e0
              have e2 : (xn.toList != ([] : List UInt8)) = true := bne_iff_ne.2 e0
              gi_wp2
              refine hR.mono ?_
              rintro e W3 (⟨rfl, hJ3, hk3⟩ | ⟨rfl, hJx3⟩)
              · gi_wp2
                go_roundw
                case rel => exact ⟨j + 1, pre1 ++ [⟨(xn, (i : Int), (j : Int)), hxb⟩], rest2, by omega, by simp, by rw [hx2]; simp, hr2, hJ3, hb1.trans hk3⟩
                case measure => simp [intOf]; omega
              · gi_wp2
                refine bodyPost_ret (results_none rfl _ _ _) rfl ?_
                exact ⟨⟨_, rfl⟩, .inr ⟨_, ⟨rest2, by rw [hx2]; simp⟩, hJx3⟩⟩
        · obtain rfl : j = row.length := by omega
          gi_wp2
          go_roundw
          case rel => exact ⟨i + 1, pre1, rest1, by omega, by simp, hx2, by simpa [area_boxes.row] using hr1, hJ1, hb1⟩
          case measure => simp [intOf]; omega
    · obtain rfl : i = l0.length := by omega
      gi_wp2
      go_end0
      have hz : rest = [] := by
        have := congrArg List.length hr
        simpa [area_boxes.cells] using this
      exact ⟨⟨_, rfl⟩, .inl ⟨pre, by rw [hx, hz, List.append_nil], hJs⟩⟩
set_option maxHeartbeats 1000000 in
/-- area.each: the rows are boxed; the function value captures the box. -/
theorem ar_each_in (F : Fence) (n : Nat) (h56 : F.fn 49) (hro : F.round = none) (A0 : Option Addr) (m c0 : Nat) (w : World) :
    CallsIn F n Tryz.prog 49 #[.slice A0 m c0] w fun e w' => e = .returned (.func (.func 87) #[] #[.pointer (some ⟨w.heap.size, 0, none⟩)]) ∧ w' = w.alloc (.cells #[.slice A0 m c0] 22) := by
  refine callsIn_of_wp Tryz.func49 rfl h56 ?_ hro
  simp only [Tryz.ntmps49, List.size_toArray, List.length_cons, List.length_nil, Nat.reduceAdd, Nat.reduceSub, Array.replicate_succ, Array.replicate_zero, List.push_toArray, List.append_toArray, List.nil_append, List.cons_append]
  gi_wp2
  go_ret
  exact ⟨rfl, rfl⟩
/-- The function value SeqStopsK, at 'Below n₀'. -/
theorem ar_each_stops (F : Fence) (n : Nat) (h82 : F.fn 87) (hro : F.round = none) (hn : 1 ≤ n) (Bn : Nat) (A0 : Option Addr) (c0 : Nat) (l0 : List (List ByteArray)) (w0 : World)
    (hC : Kd.C (Kd.slice 9 Kd.string) w0 A0 l0.length l0) (hc0 : l0.length ≤ c0) (hL : l0.length < 1000000) (hL2 : ∀ l ∈ l0, l.length < 1000000)
    (xs : List ArCell) (hxs : xs.map (·.1) = area_boxes.cells l0 0) (w : World) (hBn : Bn < w.heap.size) (hB : Below w0.heap.size w0 w) (hc : w.cell? ⟨Bn, 0, none⟩ = some (.slice A0 l0.length c0)) :
    SeqStopsK F n Tryz.prog 87 #[.pointer (some ⟨Bn, 0, none⟩)] ArCell.enc (Below w0.heap.size) (fun ys => ys = xs) (fun pre => pre <+: xs) xs.length w := fun l J Jx W hW _ _ hY h0 =>
  ar_each1_in F n h82 hro hn l Bn A0 c0 l0 w0 hC hc0 hL hL2 xs hxs J Jx hY W ((hW.cell (p := ⟨Bn, 0, none⟩) hBn).trans hc) (hB.trans (hW.mono hB.size)) h0
end Go.Proofs.YtofdhdafabmhmaaGreatDoor.Giv
end
section
/- area.boxes: what it computes. -/
namespace Go.Proofs.YtofdhdafabmhmaaGreatDoor.Giv
open Go.RowKit Go.Proofs.YtofdhdafabmhmaaGreatDoorW.PrintWords Go.Proofs.YtofdhdafabmhmaaGreatDoorW.PrintLast Go.Proofs.YtofdhdafabmhmaaGreatDoorW.PrintMore
open Go.Proofs.YtofdhdafabmhmaaGreatDoor.Opn Go.Proofs.YtofdhdafabmhmaaGreatDoor.PAr
def area_boxes.at_ (s : ByteArray) : List S28 → Option Nat
 | [] => none
 | x :: l => if x.f0 = s then some 0 else (area_boxes.at_ s l).map (· + 1)
/-- A rectangle that takes in one more cell. -/
def area_boxes.wide (b : S28) (r c : Int) : S28 :=
 ⟨b.f0, b.f1, min b.f2 c, wrap64 (wrap64 (r + 1) - b.f1), wrap64 (max (wrap64 (b.f2 + b.f4)) (wrap64 (c + 1)) - min b.f2 c)⟩
def area_boxes.step (x : ByteArray × Int × Int) (o : List S28 × List Int) : List S28 × List Int :=
 match area_boxes.at_ x.1 o.1 with
 | none => (o.1 ++ [⟨x.1, x.2.1, x.2.2, 1, 1⟩], o.2 ++ [1])
 | some k => (o.1.modify k (fun b => area_boxes.wide b x.2.1 x.2.2), o.2.modify k (fun n => wrap64 (n + 1)))
def area_boxes.run (l : List (ByteArray × Int × Int)) : List S28 × List Int := l.foldl (fun o x => area_boxes.step x o) ([], [])
def area_boxes.full : List S28 → List Int → Bool
 | b :: l, n :: m => decide (wrap64 (b.f3 * b.f4) = n) && area_boxes.full l m
 | _, _ => true
def area_boxes.f (k : Nat) (l0 : List (List ByteArray)) : Option (List S28 × Bool) :=
 if (area_boxes.cells l0 0).length < 1000000 ∧ l0.length < 1000000 ∧ ∀ l ∈ l0, l.length < 1000000 ∧ ∀ s ∈ l, s.size ≤ 9223372036854775807 then
  (if area_boxes.full (area_boxes.run (area_boxes.cells l0 0)).1 (area_boxes.run (area_boxes.cells l0 0)).2 = true then some ((area_boxes.run (area_boxes.cells l0 0)).1, true) else some ([], false))
 else none
theorem area_boxes.mono : ∀ l0 k, LeO (area_boxes.f k l0) (area_boxes.f (k + 1) l0) := fun _ _ => LeO.refl _
end Go.Proofs.YtofdhdafabmhmaaGreatDoor.Giv
end
section
/- area.boxes: what its map tells of its list: plain laws. -/
namespace Go.Proofs.YtofdhdafabmhmaaGreatDoor.Giv
open Go.RowKit Go.Proofs.YtofdhdafabmhmaaGreatDoorW.PrintWords Go.Proofs.YtofdhdafabmhmaaGreatDoorW.PrintLast Go.Proofs.YtofdhdafabmhmaaGreatDoorW.PrintMore
open Go.Proofs.YtofdhdafabmhmaaGreatDoor.Opn Go.Proofs.YtofdhdafabmhmaaGreatDoor.PAr
open Go
def arKey (s : ByteArray) : Lit := .string s.data.toList
theorem arKey_ne {s t : ByteArray} (h : s ≠ t) : arKey s ≠ arKey t := by
 intro e
 apply h
 obtain ⟨a⟩ := s
 obtain ⟨b⟩ := t
 have : a.toList = b.toList := by injection e
 rw [Array.toList_inj.1 this]
theorem arKey_lit (s : ByteArray) : WideAt.IsKeyLit (arKey s) := by
 first | trivial | exact ⟨_, rfl⟩ | simp [arKey, WideAt.IsKeyLit]
/-- The map tells of each name where it stands in the list. -/
structure ArTells (D : DataW Unit) (out : List S28) : Prop where
 m : Maps.IsMap D
 h : ∀ s, Maps.has D (arKey s) = (area_boxes.at_ s out).isSome
 a : ∀ s k, area_boxes.at_ s out = some k → ∀ z, D.atKey (arKey s) z = .lit (.int .i64 (k : Nat))
theorem ar_at_snoc (s : ByteArray) (b : S28) : ∀ out, area_boxes.at_ s (out ++ [b]) = (match area_boxes.at_ s out with | some k => some k | none => if b.f0 = s then some out.length else none)
 | [] => by
  simp only [List.nil_append, area_boxes.at_]
  split <;> rfl
 | x :: out => by
  have ih := ar_at_snoc s b out
  simp only [List.cons_append, area_boxes.at_]
  by_cases hx : x.f0 = s
  ·simp [hx]
  ·simp only [if_neg hx, ih]
   cases area_boxes.at_ s out with
   | some k => rfl
   | none =>
    by_cases hb : b.f0 = s
    ·simp [hb]
    ·simp [hb]
theorem ar_at_names (s : ByteArray) : ∀ (out out' : List S28), out.map (·.f0) = out'.map (·.f0) → area_boxes.at_ s out = area_boxes.at_ s out'
 | [], [], _ => rfl
 | [], _ :: _, h => by simp at h
 | _ :: _, [], h => by simp at h
 | x :: out, y :: out', h => by
  simp only [List.map_cons, List.cons.injEq] at h
  simp only [area_boxes.at_, h.1, ar_at_names s out out' h.2]
theorem ar_at_some (s : ByteArray) : ∀ (out : List S28) (k : Nat), area_boxes.at_ s out = some k → ∃ b, out[k]? = some b ∧ b.f0 = s
 | [], k, h => by simp [area_boxes.at_] at h
 | x :: out, k, h => by
  unfold area_boxes.at_ at h
  split at h
  ·rename_i h1
   cases h
   exact ⟨x, rfl, h1⟩
  ·cases h1 : area_boxes.at_ s out with
   | none => rw [h1] at h; cases h
   | some j =>
    rw [h1] at h
    cases h
    obtain ⟨b, hb, hs⟩ := ar_at_some s out j h1
    exact ⟨b, by simpa using hb, hs⟩
theorem ArTells.nil : ArTells (.map []) [] := ⟨⟨_, rfl⟩, fun s => rfl, fun s k h => by simp [area_boxes.at_] at h⟩
theorem ArTells.put {D : DataW Unit} {out : List S28} (h : ArTells D out) (b : S28) (hb : area_boxes.at_ b.f0 out = none) : ArTells (D.put (arKey b.f0) (.lit (.int .i64 out.length))) (out ++ [b]) := by
 refine ⟨?_, fun s => ?_, fun s k hk z => ?_⟩
 ·obtain ⟨es, rfl⟩ := h.m
  first | exact ⟨_, rfl⟩ | exact Maps.isMap_put ⟨_, rfl⟩ _ _
 ·by_cases hs : b.f0 = s
  ·subst hs
   rw [Maps.has_put_same h.m (arKey_lit _), ar_at_snoc, hb]
   simp
  ·rw [Maps.has_put_other (arKey_ne (Ne.symm hs)), h.h, ar_at_snoc]
   cases area_boxes.at_ s out <;> simp [hs]
 ·rw [ar_at_snoc] at hk
  by_cases hs : b.f0 = s
  ·subst hs
   rw [hb] at hk
   simp only [if_true, Option.some.injEq] at hk
   subst hk
   exact Maps.atKey_put_same h.m (arKey_lit _) _ _
  ·rw [Maps.atKey_put_other (arKey_ne (Ne.symm hs))]
   cases ha : area_boxes.at_ s out with
   | none => rw [ha] at hk; simp [hs] at hk
   | some j =>
    rw [ha] at hk
    cases hk
    exact h.a s _ ha z
theorem ArTells.same {D : DataW Unit} {out out' : List S28} (h : ArTells D out) (hn : out.map (·.f0) = out'.map (·.f0)) : ArTells D out' :=
 ⟨h.m, fun s => by rw [h.h, ar_at_names s out out' hn], fun s k hk z => h.a s k (by rw [ar_at_names s out out' hn, hk]) z⟩
end Go.Proofs.YtofdhdafabmhmaaGreatDoor.Giv
end
section
/- A region that draws its order, in a round of a loop over a function, or in the wide fence: where all operations ahead of its tail read alone. Conditions: none. -/
namespace Go.Proofs.YtofdhdafabmhmaaGreatDoor.StI
open Go
/-- A fence that lets every function in, and asks for no room: the wide one, and a round in it. -/
structure NeutralF (F : Fence) : Prop where
 fn : ∀ f, F.fn f
 depth : F.depth = none
 calls : ∀ {n : Nat} {P : Program} {f : FuncId} {args : Array Value} {w : World} {R : Ending → World → Prop}, Calls P f args w R → CallsIn F n P f args w R
theorem neutral_wide : NeutralF Fence.wide := ⟨fun _ => trivial, rfl, fun h => callsIn_wide.2 h⟩
theorem neutral_round (l : Nat) : NeutralF (Fence.wide.inRound l) := ⟨fun _ => trivial, rfl, fun h => CallsIn.inRound l (callsIn_wide.2 h)⟩
section
variable {P : Program} {ops : Array Oper} {md : Region.Mode} {w : World} {m : Nat} {F : Fence}
theorem wpIn_of_still (hF : NeutralF F) {o : Oper} {a : Act} {K : Act → Prop} {K' : Act → World → Prop} {Q' : Exit → Act → World → Prop} (hd : ∀ c, o.op ≠ .defer c) (h : ∀ a, K a → K' a w) (hh : o.still P a w K) : o.wpIn F m P a w K' Q' := by
 unfold Oper.wpIn
 refine ⟨fun f _ => hF.fn f, ?_⟩
 have e : o.semAt F.round a.eval = execOp a.eval o := Oper.semAt_plain F _ _ hd
 rw [e]
 unfold Oper.still at hh
 generalize (execOp a.eval o).run P w = r at *
 cases r with
 | ok n w' =>
  cases n <;> simp only [Oper.stillUpon] at hh <;> simp only [Oper.uponIn]
  case enter f args =>
   obtain ⟨rfl, v, hc, hn⟩ := hh
   refine ⟨fun h => (by rw [hF.depth] at h; cases h), hF.calls (hc.mono fun e w'' ⟨he, hw⟩ => ?_)⟩
   subst he
   subst hw
   exact h _ hn
  all_goals (obtain ⟨rfl, h2⟩ := hh; exact h _ h2)
 | halt x w' => simp only [Oper.stillUpon] at hh
theorem wpOpIn_of_stOp (hF : NeutralF F) {i : Nat} {a : Act} {K : Act → Prop} {K' : Act → World → Prop} {Q' : Exit → Act → World → Prop} (hd : ∀ (j : Nat) (o : Oper) c, ops[j]? = some o → o.op ≠ .defer c) (h : ∀ a, K a → K' a w) (hh : stOp P ops w i K a) : wpOpIn F m P ops Q' i K' a w := by
 unfold stOp at hh
 unfold wpOpIn
 split
 ·rename_i ho; simp only [ho] at hh; exact h _ hh
 ·rename_i o ho
  simp only [ho] at hh
  split
  ·rename_i hw; simp only [hw, if_true] at hh; exact wpIn_of_still hF (fun c => hd i o c ho) h hh
  ·rename_i hw; simp only [hw] at hh; exact ⟨fun f _ => hF.fn f, h _ hh⟩
theorem wpAnyIn_of_head (hF : NeutralF F) {n g : Nat} {L : Array Bool → Act → Prop} {Q' : Exit → Act → World → Prop} (hd : ∀ (j : Nat) (o : Oper) c, ops[j]? = some o → o.op ≠ .defer c) (hL : ∀ listed a, L listed a → wpAnyIn F m P md ops Q' g listed a w) :
  ∀ (f : Nat) (listed : Array Bool) (a : Act), wpAnyL P md ops w n L f listed a → wpAnyIn F m P md ops Q' (f + g) listed a w
 | 0, listed, a, h => by rw [Nat.zero_add]; exact hL _ _ h
 | f + 1, listed, a, h => by
  rw [show f + 1 + g = (f + g) + 1 by omega]
  exact ⟨fun h0 => absurd h0 h.1, fun i hi => wpOpIn_of_stOp hF hd (fun a' h' => wpAnyIn_of_head hF hd hL f _ a' h') (h.2 i hi).2⟩
theorem wpAnyIn_of_seq {Q' : Exit → Act → World → Prop} : ∀ (l : List Oper) (k : Nat) (listed : Array Bool) (a : Act) (w : World), (∀ j, l[j]? = ops[k + j]?) →
  Region.seqB md ops l.length k listed = true → wpListIn F m P ops Q' l a w → wpAnyIn F m P md ops Q' l.length listed a w
 | [], _, _, _, _, _, hB, h => ⟨by simpa [Region.seqB] using hB, h⟩
 | o :: l, k, listed, a, w, hl, hB, h => by
  have h0 : ops[k]? = some o := by simpa using (hl 0).symm
  simp only [List.length_cons, Region.seqB, Bool.and_eq_true, decide_eq_true_eq] at hB
  refine ⟨fun h1 => (by rw [hB.1] at h1; cases h1), fun i hi => ?_⟩
  rw [hB.1] at hi
  have hik : i = k := by simpa using hi
  subst hik
  have hw : wpOpIn F m P ops Q' i (wpListIn F m P ops Q' l) a w := by unfold wpOpIn; simp only [h0]; exact h
  exact wpOpIn_mono (fun a' w' h' => wpAnyIn_of_seq l (i + 1) _ a' w' (fun j => by have := hl (j + 1); simpa [Nat.add_assoc, Nat.add_comm 1 j] using this) hB.2 h') hw
/-- No operation is a defer statement. -/
def noDefer (l : List Oper) : Bool := l.all fun o => match o.op with | .defer _ => false | _ => true
theorem noDefer_spec {l : List Oper} (h : noDefer l = true) (j : Nat) (o : Oper) (c) (hj : l.toArray[j]? = some o) : o.op ≠ .defer c := by
 intro e
 have h1 := List.all_eq_true.1 h o (by rw [List.getElem?_toArray] at hj; exact List.mem_of_getElem? hj)
 rw [e] at h1
 cases h1
theorem wpIn_region_still_tail (hF : NeutralF F) {id : Nat} {Q : Exit → Act → World → Prop} {a : Act} {w : World} {l : List Oper} (n : Nat) (hm : P.follows .mixedOrders = true) (hB : (noDefer l && Region.lexTailB .any l.toArray n) = true)
  (h : wpStill P l.toArray { w with drawn := w.drawn + 1 } (fun a' => wpListIn F m P l.toArray Q (l.drop n) a' { w with drawn := w.drawn + 1 }) (l.take n) a) : (Code.region id l.toArray true).wpIn F m P Q a w := by
 simp only [Region.lexTailB, Bool.and_eq_true, decide_eq_true_eq] at hB
 obtain ⟨hnd, ⟨⟨⟨hsel, hn⟩, hs⟩, hc⟩, hlex⟩ := hB
 have hd := noDefer_spec hnd
 have hn' : n < l.length := by simpa using hn
 have htl : (l.take n).length = n := by simp; omega
 have hdl : (l.drop n).length = l.toArray.size - n := by simp
 have inv0 : HeadInv .any l.toArray n (Array.replicate l.toArray.size false) :=
  ⟨by simp, fun j oj _ hl => (by rw [getD_replicate_false] at hl; cases hl), fun t _ ht => getD_in (by simpa using ht) (getD_replicate_false _ _)⟩
 have H := wpAnyL_lex (md := .any) (g := l.toArray.size - n) hsel hs hc hn (l.take n) 0 _ a (fun j hj => by
  have hj' : j < n := by rw [htl] at hj; exact hj
  simp [hj']) (by simpa using htl) inv0 (by rw [htl]; exact hlex) h
 refine wpIn_region_any hm ?_
 have := wpAnyIn_of_head hF (Q' := Q) (g := l.toArray.size - n) hd (fun listed a' hL => by
  have := wpAnyIn_of_seq (md := .any) (Q' := Q) (l.drop n) n listed a' { w with drawn := w.drawn + 1 } (fun j => by simp [List.getElem?_drop]) (by rw [hdl]; exact hL.1) hL.2
  rwa [hdl] at this) _ _ _ H
 rw [htl, show n + (l.toArray.size - n) = l.toArray.size by omega] at this
 exact this
theorem wpIn_region_still_drew (hF : NeutralF F) {id : Nat} {Q : Exit → Act → World → Prop} {a : Act} {w : World} {l : List Oper} (n : Nat) (hm : P.follows .mixedOrders = true) (hB : (noDefer l && Region.lexTailB .any l.toArray n) = true)
  (h : ∀ w2, w2 = w.drew → wpStill P l.toArray w2 (fun a' => wpListIn F m P l.toArray Q (l.drop n) a' w2) (l.take n) a) : (Code.region id l.toArray true).wpIn F m P Q a w :=
 wpIn_region_still_tail hF n hm hB (h _ rfl)
end
end Go.Proofs.YtofdhdafabmhmaaGreatDoor.StI
end
section
/- area.boxes: its contract: the loop over area.each by the law of loops over functions, its map, its two lists; then the loop that compares. -/
namespace Go.Proofs.YtofdhdafabmhmaaGreatDoor.Giv
open Go.RowKit Go.Shelf Go.Proofs.YtofdhdafabmhmaaGreatDoorW.PrintWords Go.Proofs.YtofdhdafabmhmaaGreatDoorW.PrintLast Go.Proofs.YtofdhdafabmhmaaGreatDoorW.PrintMore
open Go.Proofs.YtofdhdafabmhmaaGreatDoor.Opn Go.Proofs.YtofdhdafabmhmaaGreatDoor.PAr Go.Proofs.YtofdhdafabmhmaaGreatDoor.StI
def ArCell.list (pre : List ArCell) : List (ByteArray × Int × Int) := pre.map (·.1)
def ArEnc (b : S28) : List Value := [.string b.f0, .int .i64 b.f1, .int .i64 b.f2, .int .i64 b.f3, .int .i64 b.f4]
/-- What lies between two rounds: the map, the list of rectangles, how many cells each has. -/
def ArI (s n0 : Nat) (pre : List ArCell) (W : World) : Prop :=
  Boxed W (s + 1) 68 (.map (some s)) ∧
  (∃ D, W.ownsMap Tryz.prog 9 (plainElem (H := Unit) Tryz.prog 3) s (area_boxes.run (ArCell.list pre)).1.length D ∧ ArTells D (area_boxes.run (ArCell.list pre)).1) ∧
  (∃ v, Boxed W (s + 1 + 1) 25 v ∧ W.ownsRow s 28 5 v (area_boxes.run (ArCell.list pre)).1.length ((area_boxes.run (ArCell.list pre)).1.flatMap ArEnc) ∧ True) ∧
  (∃ u, Boxed W (s + 1 + 1 + 1) 69 u ∧ W.ownsRow s 3 1 u (area_boxes.run (ArCell.list pre)).2.length ((area_boxes.run (ArCell.list pre)).2.map (Value.int .i64)) ∧ True)
theorem ArI.own (s n0 : Nat) (hs : s + 1 + 1 + 1 < n0) : OwnFrom n0 (ArI s n0) := by
  intro pre A B row h hg hr
  obtain ⟨h1, ⟨D, h2, h3⟩, h4, h5⟩ := h
  have hr2 : ∀ r, row = some r → ∃ o : Obj, A.heap[r]? = some o ∧ o.isCells = false := fun r e => (hr r e).2
  refine ⟨boxed_own (s + 1) _ (fun _ : Unit => .map (some s)) () A B row h1 hg hr2, ⟨D, h2.kept hg (fun e => by have := (hr _ e.symm).1; omega), h3⟩, ?_, ?_⟩
  · exact holdsRow_own s (s + 1 + 1) _ _ 5 (fun pre => (area_boxes.run (ArCell.list pre)).1.length) (fun pre => (area_boxes.run (ArCell.list pre)).1.flatMap ArEnc) (fun _ _ => True) pre A B row h4 hg hr2
  · exact holdsRow_own s (s + 1 + 1 + 1) _ _ 1 (fun pre => (area_boxes.run (ArCell.list pre)).2.length) (fun pre => (area_boxes.run (ArCell.list pre)).2.map (Value.int .i64)) (fun _ _ => True) pre A B row h5 hg hr2
theorem ar_five (W : World) (t : TypeId) (a b c d e : Value) : ∀ (j : Nat) u, [a, b, c, d, e][j]? = some u → (W.alloc (.cells #[a, b, c, d, e] t)).cell? ((⟨W.heap.size, 0, none⟩ : Addr).add j) = some u := by
  intro j u hu
  have h := World.alloc_heap_new W (.cells #[a, b, c, d, e] t)
  have hc : ∀ i, (W.alloc (.cells #[a, b, c, d, e] t)).cell? ⟨W.heap.size, i, none⟩ = #[a, b, c, d, e][i]? := fun i => blk_cell h i
  rcases j with _ | _ | _ | _ | _ | j <;> simp at hu <;> subst hu
  · exact (hc 0).trans rfl
  · exact (hc 1).trans rfl
  · exact (hc 2).trans rfl
  · exact (hc 3).trans rfl
  · exact (hc 4).trans rfl
theorem map_apart {W : World} {P : Program} {kt : TypeId} {R : Value → Option (DataW Unit × List MemPlace)} {b n : Nat} {D : DataW Unit} {base size k e : Nat} {v : Value} {xs : List Value} (h : W.ownsMap P kt R b n D) (h' : W.ownsRow base e size v k xs) : some b ≠ v.ownBlock := by
  rcases h'.2 with ⟨rfl, _⟩ | ⟨g, cap, cur, rfl, _, hg, _⟩
  · simp [Value.ownBlock]
  · intro e1
    simp only [Value.ownBlock, Option.some.injEq] at e1
    subst e1
    obtain ⟨es, ck, hh, _⟩ := h
    rw [hh] at hg
    cases hg
theorem flat_at : ∀ (out : List S28) (k i : Nat), i < 5 → ∀ {b}, out[k]? = some b → (out.flatMap ArEnc)[k * 5 + i]? = (ArEnc b)[i]?
  | [], k, i, hi, b, h => by simp at h
  | x :: out, 0, i, hi, b, h => by
    simp at h
    subst h
    rw [List.flatMap_cons, List.getElem?_append_left (by simp [ArEnc]; omega)]
    simp
  | x :: out, k + 1, i, hi, b, h => by
    rw [List.flatMap_cons, List.getElem?_append_right (by simp [ArEnc]; omega)]
    have := flat_at out k i hi (b := b) (by simpa using h)
    rw [← this]
    congr 1
    simp [ArEnc]
    omega
theorem ar_reps (w : World) (base : Nat) (ok : Nat → Prop) : ∀ out : List S28, Reps (k28.M w base ok) 5 out (out.flatMap ArEnc)
  | [] => Reps.none _ _
  | b :: out => Reps.front (k28_mkM w base ok b) rfl (ar_reps w base ok out) rfl
theorem ar_R {w : World} {base : Nat} {v : Value} {out : List S28} (h : w.ownsRow base 28 5 v out.length (out.flatMap ArEnc)) : Kd.R k28 28 w base (fun _ => True) v out :=
  ⟨fun _ _ => trivial, _, h, ar_reps w base _ out⟩
theorem modify_set {α : Type} {l : List α} {k : Nat} {b : α} {f : α → α} (h : l[k]? = some b) : l.modify k f = l.set k (f b) := by
  apply List.ext_getElem?
  intro i
  rw [List.getElem?_modify, List.getElem?_set]
  by_cases hk : k = i
  · subst hk
    obtain ⟨hl, he⟩ := List.getElem?_eq_some_iff.1 h
    simp [hl, he]
  · simp [hk]
theorem names_set {l : List S28} {k : Nat} {b b' : S28} (h : l[k]? = some b) (e : b'.f0 = b.f0) : (l.set k b').map (·.f0) = l.map (·.f0) := by
  apply List.ext_getElem?
  intro i
  rw [List.getElem?_map, List.getElem?_map, List.getElem?_set]
  by_cases hk : k = i
  · subst hk
    obtain ⟨hl, he⟩ := List.getElem?_eq_some_iff.1 h
    simp [hl, he, e]
  · simp [hk]
theorem addr_add (b o n : Nat) : (⟨b, o, none⟩ : Addr).add n = ⟨b, o + n, none⟩ := by
  unfold Addr.add
  split <;> simp_all
theorem cell_one_at (w : World) (x : Value) (t n : Nat) (hn : n = w.heap.size) : ∀ (j : Nat) u, [x][j]? = some u → (w.alloc (.cells #[x] t)).cell? ((⟨n, 0, none⟩ : Addr).add j) = some u := by
  subst hn
  exact cell_one_new w x t
theorem rows_apart {W : World} {base size k e base' size' k' e' : Nat} {v v' : Value} {xs xs' : List Value} (hne : e ≠ e') (h : W.ownsRow base e size v k xs) (h' : W.ownsRow base' e' size' v' k' xs') : v.ownBlock = none ∨ v.ownBlock ≠ v'.ownBlock := by
  rcases h.2 with ⟨rfl, _⟩ | ⟨g, cap, cur, rfl, _, hg, _⟩
  · exact .inl rfl
  · refine .inr fun e1 => ?_
    rcases h'.2 with ⟨rfl, _⟩ | ⟨g', cap', cur', rfl, _, hg', _⟩
    · simp [Value.ownBlock] at e1
    · simp only [Value.ownBlock, Option.some.injEq] at e1
      subst e1
      rw [hg] at hg'
      simp at hg'
      exact hne hg'.2
theorem ar_step_len (x : ByteArray × Int × Int) (o : List S28 × List Int) (h : o.1.length = o.2.length) : (area_boxes.step x o).1.length = (area_boxes.step x o).2.length ∧ (area_boxes.step x o).1.length ≤ o.1.length + 1 := by
  unfold area_boxes.step
  split <;> simp [h]
theorem ar_run_snoc (l : List (ByteArray × Int × Int)) (x : ByteArray × Int × Int) : area_boxes.run (l ++ [x]) = area_boxes.step x (area_boxes.run l) := by simp [area_boxes.run]
theorem ar_run_len : ∀ (n : Nat) (l : List (ByteArray × Int × Int)), l.length = n → (area_boxes.run l).1.length = (area_boxes.run l).2.length ∧ (area_boxes.run l).1.length ≤ l.length
  | 0, l, h => by
    obtain rfl := List.length_eq_zero_iff.1 h
    simp [area_boxes.run]
  | n + 1, l, h => by
    obtain ⟨p, x, rfl⟩ : ∃ p x, l = p ++ [x] := ⟨l.dropLast, l.getLast (by intro e; simp [e] at h), (List.dropLast_concat_getLast _).symm⟩
    obtain ⟨h1, h2⟩ := ar_run_len n p (by simpa using h)
    obtain ⟨h3, h4⟩ := ar_step_len x (area_boxes.run p) h1
    rw [ar_run_snoc]
    refine ⟨h3, ?_⟩
    simp only [List.length_append, List.length_singleton]
    omega
theorem ar_list_snoc (pre : List ArCell) (x : ArCell) : ArCell.list (pre ++ [x]) = ArCell.list pre ++ [x.1] := by simp [ArCell.list]
theorem ar_infoI : (Tryz.prog.info? 3).map (fun i => (i.zero, i.size, i.bytes)) = some (some (.int .i64 0), 1, 8) := by kernel_rfl
theorem ar_info : (Tryz.prog.info? 28).map (fun i => (i.zero, i.size, i.bytes)) = some (some (.agg #[.string ⟨#[]⟩, .int .i64 0, .int .i64 0, .int .i64 0, .int .i64 0]), 5, 48) := by kernel_rfl
/-- What a round with an old name keeps: the map, the list, the counts, the cell's own box. -/
structure ArSt (s Bx B gv vc gu cu : Nat) (x : ByteArray × Int × Int) (D : DataW Unit) (W : World) (out : List S28) (cnt : List Int) (W' : World) : Prop where
  mb : Boxed W' (s + 1) 68 (.map (some s))
  om : W'.ownsMap Tryz.prog 9 (plainElem (H := Unit) Tryz.prog 3) s out.length D
  vb : Boxed W' (s + 1 + 1) 25 (.slice (some ⟨gv, 0, none⟩) out.length vc)
  vr : W'.ownsRow s 28 5 (.slice (some ⟨gv, 0, none⟩) out.length vc) out.length (out.flatMap ArEnc)
  ub : Boxed W' (s + 1 + 1 + 1) 69 (.slice (some ⟨gu, 0, none⟩) cnt.length cu)
  ur : W'.ownsRow s 3 1 (.slice (some ⟨gu, 0, none⟩) cnt.length cu) cnt.length (cnt.map (Value.int .i64))
  bx : W'.heap[Bx]? = some (.cells #[.string x.1, .int .i64 x.2.1, .int .i64 x.2.2, .int .i64 1, .int .i64 1] 28 (0, 0))
  bv : some Bx ≠ (Value.slice (some ⟨gv, 0, none⟩) out.length vc).ownBlock
  kf : KeepsFrom B W W'
  bl : Below s W W'
section
variable {s Bx B gv vc gu cu : Nat} {x : ByteArray × Int × Int} {D : DataW Unit} {W W' : World} {out : List S28} {cnt : List Int}
theorem ArSt.drew (h : ArSt s Bx B gv vc gu cu x D W out cnt W') : ArSt s Bx B gv vc gu cu x D W out cnt W'.drew :=
  ⟨h.mb, h.om, h.vb, h.vr, h.ub, h.ur, h.bx, h.bv, h.kf.trans ((KeepsOthers.drew W').from B), h.bl.trans ((Below.refl s W').drew)⟩
theorem ArSt.stV {out' : List S28} (h : ArSt s Bx B gv vc gu cu x D W out cnt W') (j : Nat) (u : Value) (he : out'.flatMap ArEnc = (out.flatMap ArEnc).set j u) (hl : out'.length = out.length) : ArSt s Bx B gv vc gu cu x D W out' cnt (W'.setCell ⟨gv, j, none⟩ u) := by
  obtain ⟨hr, hg⟩ := h.vr.stored j u
  have hlt := h.vr.lt gv rfl
  have hb := h.bv
  simp only [Value.ownBlock] at hb
  refine ⟨h.mb.kept hg (h.mb.not_row (by decide) h.vr), ?_, ?_, ?_, h.ub.kept hg (h.ub.not_row (by decide) h.vr), h.ur.kept hg (rows_apart (by decide) h.ur h.vr), (hg.block Bx (Array.getElem?_eq_some_iff.1 h.bx).1 hb).trans h.bx, by rw [hl]; exact h.bv, ?_, ?_⟩
  · rw [hl]
    exact h.om.kept hg (map_apart h.om h.vr)
  · rw [hl]
    exact h.vb.kept hg (h.vb.not_row (by decide) h.vr)
  · rw [hl, he]
    exact hr
  · exact h.kf.trans ((KeepsOthers.setCell W' _ u).from B)
  · exact h.bl.setCell (p := ⟨gv, j, none⟩) hlt.1 u
theorem ArSt.stU (h : ArSt s Bx B gv vc gu cu x D W out cnt W') (hx : some Bx ≠ some gu) (j : Nat) (n : Int) : ArSt s Bx B gv vc gu cu x D W out (cnt.set j n) (W'.setCell ⟨gu, j, none⟩ (.int .i64 n)) := by
  obtain ⟨hr, hg⟩ := h.ur.stored j (.int .i64 n)
  have hlt := h.ur.lt gu rfl
  refine ⟨h.mb.kept hg (h.mb.not_row (by decide) h.ur), h.om.kept hg (map_apart h.om h.ur), h.vb.kept hg (h.vb.not_row (by decide) h.ur), h.vr.kept hg (rows_apart (by decide) h.vr h.ur), ?_, ?_, (hg.block Bx (Array.getElem?_eq_some_iff.1 h.bx).1 hx).trans h.bx, h.bv, ?_, ?_⟩
  · rw [List.length_set]
    exact h.ub.kept hg (h.ub.not_row (by decide) h.ur)
  · rw [List.length_set, List.map_set]
    exact hr
  · exact h.kf.trans ((KeepsOthers.setCell W' _ _).from B)
  · exact h.bl.setCell (p := ⟨gu, j, none⟩) hlt.1 _
theorem ArSt.cellV (h : ArSt s Bx B gv vc gu cu x D W out cnt W') {k i : Nat} {b : S28} {u : Value} (hb : out[k]? = some b) (hi : i < 5) (hu : (ArEnc b)[i]? = some u) : W'.cell? ⟨gv, k * 5 + i, none⟩ = some u := by
  have hk := (List.getElem?_eq_some_iff.1 hb).1
  exact ((h.vr.cellAt (k * 5 + i) (by omega)).trans (flat_at out k i hi hb)).trans hu
theorem ArSt.cellU (h : ArSt s Bx B gv vc gu cu x D W out cnt W') {k : Nat} {n : Int} (hb : cnt[k]? = some n) : W'.cell? ⟨gu, k, none⟩ = some (.int .i64 n) := by
  have hk := (List.getElem?_eq_some_iff.1 hb).1
  exact (h.ur.cellAt k (by omega)).trans (by simp [hb])
end
theorem flat_set {u : Value} {b' : S28} : ∀ (out : List S28) (k i : Nat), i < 5 → ∀ {b}, out[k]? = some b → ArEnc b' = (ArEnc b).set i u → (out.set k b').flatMap ArEnc = (out.flatMap ArEnc).set (k * 5 + i) u
  | [], k, i, hi, b, h, _ => by simp at h
  | y :: out, 0, i, hi, b, h, e => by
    simp at h
    subst h
    rw [List.set_cons_zero, List.flatMap_cons, List.flatMap_cons, List.set_append_left _ _ (by simp [ArEnc]; omega), e]
    simp
  | y :: out, k + 1, i, hi, b, h, e => by
    rw [List.set_cons_succ, List.flatMap_cons, List.flatMap_cons, List.set_append_right _ _ (by simp [ArEnc]; omega)]
    have := flat_set out k i hi (b := b) (by simpa using h) e
    rw [this]
    congr 2
    simp [ArEnc]
    omega
theorem ar_cells_sub (l0 : List (List ByteArray)) (h : ∀ l ∈ l0, ∀ s ∈ l, s.size ≤ maxLen) : ∃ xs : List ArCell, xs.map (·.1) = area_boxes.cells l0 0 := by
  have hrow : ∀ (r : Nat) (l : List ByteArray) (c : Nat), (∀ s ∈ l, s.size ≤ maxLen) → ∃ xs : List ArCell, xs.map (·.1) = area_boxes.row r l c := by
    intro r l
    induction l with
    | nil => exact fun _ _ => ⟨[], rfl⟩
    | cons s l ih =>
      intro c hl
      obtain ⟨xs, hx⟩ := ih (c + 1) (fun t ht => hl t (List.mem_cons_of_mem _ ht))
      unfold area_boxes.row
      split
      · exact ⟨xs, hx⟩
      · exact ⟨⟨(s, (r : Int), (c : Int)), hl s (List.mem_cons_self ..)⟩ :: xs, by simp [hx]⟩
  have hall : ∀ (l0 : List (List ByteArray)) (r : Nat), (∀ l ∈ l0, ∀ s ∈ l, s.size ≤ maxLen) → ∃ xs : List ArCell, xs.map (·.1) = area_boxes.cells l0 r := by
    intro l0
    induction l0 with
    | nil => exact fun _ _ => ⟨[], rfl⟩
    | cons l l0 ih =>
      intro r hl
      obtain ⟨xs, hx⟩ := hrow r l 0 (hl l (List.mem_cons_self ..))
      obtain ⟨ys, hy⟩ := ih (r + 1) (fun t ht => hl t (List.mem_cons_of_mem _ ht))
      exact ⟨xs ++ ys, by simp [area_boxes.cells, hx, hy]⟩
  exact hall l0 0 h
attribute [local go_sem] Oper.semAt_some
set_option maxRecDepth 100000 in
set_option maxHeartbeats 4000000 in
theorem area_boxes.calls (k : Nat) (A0 : Option Addr) (c0 : Nat) (l0 : List (List ByteArray)) (r1 : List S28) (r2 : Bool) (w : World) (hr0 : Kd.C (Kd.slice 9 Kd.string) w A0 l0.length l0) (hc0 : l0.length ≤ c0) (h : area_boxes.f k l0 = some (r1, r2)) :
    Calls Tryz.prog 24 #[.slice A0 l0.length c0] w fun e w' => ∃ v0_ : Value, e = .returned (.tuple #[v0_, .bool r2]) ∧ Kd.R k28 28 w' w.heap.size (fun _ => True) v0_ r1 ∧ Below w.heap.size w w' := by
  unfold area_boxes.f at h
  split at h
  case isFalse => cases h
  rename_i hcond
  obtain ⟨hcn, hL, hLL⟩ := hcond
  obtain ⟨xs, hxs⟩ := ar_cells_sub l0 (fun l hl s hs => by have := (hLL l hl).2 s hs; unfold maxLen; omega)
  have hL2 : ∀ l ∈ l0, l.length < 1000000 := fun l hl => (hLL l hl).1
  refine (callsIn_wide (n := 6)).1 ?_
  have hmm := @run_makeMap Tryz.prog
  refine callsIn_of_wp_marks Tryz.func24 rfl trivial ?_ rfl
  simp only [Tryz.ntmps24, List.size_toArray, List.length_cons, List.length_nil, Nat.reduceAdd, Nat.reduceSub, Array.replicate_succ, Array.replicate_zero, List.push_toArray, List.append_toArray, List.nil_append, List.cons_append]
  gi_wp2_with (refine ⟨trivial, ?_⟩; gi_at_call 49; refine (ar_each_in _ _ trivial rfl _ _ _ _).mono ?_; rintro e w' ⟨rfl, rfl⟩)
  have b1 := (((Boxed.new (w.alloc (.map #[] 0)) 68 (.map (some w.heap.size))).alloc (.cells #[.slice none 0 0] 25)).alloc (.cells #[.slice none 0 0] 69)).alloc (.cells #[.slice A0 l0.length c0] 22)
  have b2 := ((Boxed.new ((w.alloc (.map #[] 0)).alloc (.cells #[.map (some w.heap.size)] 68)) 25 (.slice none 0 0)).alloc (.cells #[.slice none 0 0] 69)).alloc (.cells #[.slice A0 l0.length c0] 22)
  have b3 := (Boxed.new (((w.alloc (.map #[] 0)).alloc (.cells #[.map (some w.heap.size)] 68)).alloc (.cells #[.slice none 0 0] 25)) 69 (.slice none 0 0)).alloc (.cells #[.slice A0 l0.length c0] 22)
  have b4 := Boxed.new ((((w.alloc (.map #[] 0)).alloc (.cells #[.map (some w.heap.size)] 68)).alloc (.cells #[.slice none 0 0] 25)).alloc (.cells #[.slice none 0 0] 69)) 22 (.slice A0 l0.length c0)
  simp only [World.size_alloc] at b1 b2 b3 b4
  have hm0 := ((((World.ownsMap_made w Tryz.prog 9 (plainElem (H := Unit) Tryz.prog 3)).alloc (.cells #[.map (some w.heap.size)] 68)).alloc (.cells #[.slice none 0 0] 25)).alloc (.cells #[.slice none 0 0] 69)).alloc (.cells #[.slice A0 l0.length c0] 22)
  have hB0 := (((((Below.refl w.heap.size w).alloc (Nat.le_refl _) (.map #[] 0)).alloc (by simp) (.cells #[.map (some w.heap.size)] 68)).alloc (by simp; omega) (.cells #[.slice none 0 0] 25)).alloc (by simp; omega) (.cells #[.slice none 0 0] 69)).alloc (by simp; omega) (.cells #[.slice A0 l0.length c0] 22)
  have hI0 : ArI w.heap.size 0 [] _ := ⟨b1, ⟨_, hm0, ArTells.nil⟩, ⟨_, b2, World.ownsRow_nil _ _ _ _, trivial⟩, ⟨_, b3, World.ownsRow_nil _ _ _ _, trivial⟩⟩
  obtain ⟨W0, hW0⟩ : ∃ W0, (((((w.alloc (.map #[] 0)).alloc (.cells #[.map (some w.heap.size)] 68)).alloc (.cells #[.slice none 0 0] 25)).alloc (.cells #[.slice none 0 0] 69)).alloc (.cells #[.slice A0 l0.length c0] 22)) = W0 := ⟨_, rfl⟩
  have hsz : W0.heap.size = w.heap.size + 5 := by rw [← hW0]; simp
  rw [hW0] at b1 b2 b3 b4 hm0 hB0 hI0 ⊢
  refine wpIn_rangeFunc_ownH rfl (by omega) (gf := 87) (lb := #[.pointer (some ⟨w.heap.size + 1 + 1 + 1 + 1, 0, none⟩)]) rfl trivial (enters_of Tryz.func87 (by kernel_rfl) rfl)
    (ar_each_stops _ _ trivial rfl (by omega) (w.heap.size + 1 + 1 + 1 + 1) A0 c0 l0 w hr0 hc0 hL hL2 xs hxs W0 (by omega) hB0 b4.cell)
    belowK_t (belowK_b (by omega)) (Below.refl _ _) (fun _ => rfl)
    (fun pre W => ArI w.heap.size W0.heap.size pre W ∧ Below w.heap.size w W)
    (fun _ _ _ => False)
    (OwnFrom.and (ArI.own _ _ (by omega)) (ownFrom_below (Nat.le_refl _) (by omega)))
    (fun _ _ _ _ _ hs _ _ => hs)
    ⟨hI0, hB0⟩
    (fun x a' W => ∃ Bx, w.heap.size + 1 + 1 + 1 < Bx ∧ W.heap[Bx]? = some (.cells #[.string x.1.1, .int .i64 x.1.2.1, .int .i64 x.1.2.2, .int .i64 1, .int .i64 1] 28 (0, 0)) ∧ (∀ v, Boxed W (w.heap.size + 1 + 1) 25 v → some Bx ≠ v.ownBlock) ∧ a' = { tmps := #[.slice A0 l0.length c0, undef, .slice none 0 0, .bool false, .pointer (some ⟨w.heap.size + 1, 0, none⟩), .pointer (some ⟨w.heap.size + 1 + 1, 0, none⟩), .pointer (some ⟨w.heap.size + 1 + 1 + 1, 0, none⟩), .pointer (some ⟨Bx, 0, none⟩), .string x.1.1, undef, undef, undef, undef, undef, undef, .map (some w.heap.size), .slice A0 l0.length c0, .func (.func 87) #[] #[.pointer (some ⟨w.heap.size + 1 + 1 + 1 + 1, 0, none⟩)], .agg #[.string x.1.1, .int .i64 x.1.2.1, .int .i64 x.1.2.2, .int .i64 1, .int .i64 1], .string x.1.1, undef, undef, undef, undef, undef, undef, undef, undef, undef, undef, undef, undef, undef, undef, undef, undef, undef, undef, undef, undef, undef, undef, undef, undef, undef, undef, undef, undef, undef, undef, undef, undef, undef, undef, undef, undef, undef, undef, undef, undef, undef, undef, undef, undef, undef, undef, undef, undef, undef, undef, undef, undef, undef, undef, undef, undef, undef, undef, undef, undef, undef, undef, undef, undef, undef, undef, undef, undef, undef, undef, undef, undef, undef, undef, undef, undef, undef, undef, undef, undef, undef, undef, undef, undef, undef, undef, undef], defers := [] }) ?hAx ?assign ?body ?done ?stop
  case hAx =>
    rintro x a' _ A B row ⟨Bx, hb, hc, hv, ha⟩ hg hr
    refine ⟨Bx, hb, ?_, fun v hv' => hv v ?_, ha⟩
    · refine (hg.block Bx (Array.getElem?_eq_some_iff.1 hc).1 (fun e => ?_)).trans hc
      obtain ⟨o, ho, hoc⟩ := (hr Bx e.symm).2
      rw [hc] at ho
      cases ho
      cases hoc
    · have hlt : w.heap.size + 1 + 1 < A.heap.size := by
        have := (Array.getElem?_eq_some_iff.1 hc).1
        omega
      exact ((hg.block _ hlt (fun e => by have := (hr _ e.symm).1; omega)).symm.trans hv')
  case assign =>
    rintro l pre x W K ⟨hi, hb⟩ hK
    simp only [ArCell.enc]
    gi_wp2
    have hi2 := hi
    obtain ⟨_, _, ⟨v0, hv0, ho0, _⟩, ⟨u0, hu0, _⟩⟩ := hi2
    refine hK _ _ ((KeepsOthers.alloc _ _).from _) ((Below.refl w.heap.size W).alloc hb.size _) ⟨(ArI.own _ _ (by omega)).alloc _ hi, hb.alloc hb.size _⟩ ⟨W.heap.size, hu0.lt, World.alloc_heap_new W _, fun v hv => ?_, rfl⟩
    have hv2 : Boxed W (w.heap.size + 1 + 1) 25 v := (Below.heap_alloc W _ _ hv0.lt).symm.trans hv
    obtain rfl : v0 = v := by
      have := (show W.heap[_]? = _ from hv0).symm.trans hv2
      simpa using this
    rcases ho0.2 with ⟨rfl, _⟩ | ⟨g, cap, cur, rfl, _, hgb, _⟩
    · simp [Value.ownBlock]
    · intro e
      obtain rfl : W.heap.size = g := by simpa [Value.ownBlock] using e
      have := (Array.getElem?_eq_some_iff.1 hgb).1
      omega
  case body =>
    rintro l pre x a' W hl ⟨rl, hrl⟩ ⟨hi, hb⟩ ⟨Bx, hBx, hbx, hbv, rfl⟩ hlt
    obtain ⟨hmb, ⟨D, hown, hT⟩, ⟨v, hv, hrow, _⟩, ⟨u, hu, hcnt, _⟩⟩ := hi
    have hkey : keyOf Tryz.prog 9 (.string x.1.1) = some (arKey x.1.1) := WideMaps.keyOf_string_mk Tryz.underlying9 x.2
    have hcm := hmb.cell
    have hcv := hv.cell
    have hcu := hu.cell
    obtain ⟨out, hout⟩ : ∃ out, (area_boxes.run (ArCell.list pre)).1 = out := ⟨_, rfl⟩
    obtain ⟨cnt, hcn2⟩ : ∃ cnt, (area_boxes.run (ArCell.list pre)).2 = cnt := ⟨_, rfl⟩
    rw [hout] at hown hT hrow
    rw [hcn2] at hcnt
    obtain ⟨vp, vc, rfl⟩ : ∃ p c, v = .slice p out.length c := by
      rcases hrow.2 with ⟨hv0, hn⟩ | ⟨g, cap, cur, hv0, _⟩
      · exact ⟨none, 0, by rw [hv0, hn]⟩
      · exact ⟨_, _, hv0⟩
    have hnm2 : u.ownBlock = none ∨ u.ownBlock ≠ some w.heap.size := by
      rcases hcnt.2 with ⟨hv0, hn⟩ | ⟨g, cap, cur, hv0, _, hgb, _⟩
      · exact .inl (by rw [hv0]; rfl)
      · refine .inr ?_
        rw [hv0]
        intro e
        obtain rfl : g = w.heap.size := by simpa [Value.ownBlock] using e
        obtain ⟨es, ck, hh, _⟩ := hown
        rw [hh] at hgb
        cases hgb
    have hnm : (Value.slice vp out.length vc).ownBlock = none ∨ (Value.slice vp out.length vc).ownBlock ≠ some w.heap.size := by
      rcases hrow.2 with ⟨hv0, hn⟩ | ⟨g, cap, cur, hv0, _, hgb, _⟩
      · exact .inl (by rw [hv0]; rfl)
      · refine .inr ?_
        rw [hv0]
        intro e
        obtain rfl : g = w.heap.size := by simpa [Value.ownBlock] using e
        obtain ⟨es, ck, hh, _⟩ := hown
        rw [hh] at hgb
        cases hgb
    obtain ⟨i0, hii, hz0, hz1, hz2⟩ := info_parts ar_info
    obtain ⟨j0, hjj, hy0, hy1, hy2⟩ := info_parts ar_infoI
    have hxl : xs.length < 1000000 := by
      have := congrArg List.length hxs
      rw [List.length_map] at this
      omega
    obtain ⟨hrl1, hrl2⟩ := ar_run_len _ (ArCell.list pre) rfl
    have hpl : (ArCell.list pre).length = pre.length := by simp [ArCell.list]
    rw [hout, hpl] at hrl2
    rw [hout, hcn2] at hrl1
    have hol : out.length < 1000000 := by omega
    have hcl : cnt.length < 1000000 := by omega
    have HR := Aside0.mk hrl1
    clear hrl1 hrl2
    have hrun : area_boxes.run (ArCell.list (pre ++ [x])) = area_boxes.step x.1 (out, cnt) := by rw [ar_list_snoc, ar_run_snoc, ← hout, ← hcn2]
    have hwf : (Lit.int .i64 (out.length : Int)).wf = true := by
      have := wrap64_wf (out.length : Int)
      rwa [show wrap64 (out.length : Int) = out.length by unfold wrap64; omega] at this
    have holm : out.length < maxLen := by unfold maxLen; omega
    cases hat : area_boxes.at_ x.1.1 out with
    | none =>
      have hhas : Maps.has D (arKey x.1.1) = false := by rw [hT.h, hat]; rfl
      gi_wp2_with (first
        | (gi_at_lookup; refine wpListIn_lookup_own_ok_int _ rfl _ _ 68 rfl 9 3 .i64 (Maps.string_keyed Tryz.underlying9) Tryz.underlying68 Tryz.underlying3 (Tryz.zeroValue3 _) w.heap.size out.length D rfl hown _ _ rfl hkey ?_; intro c hc1 hc2; rw [hhas])
        | (gi_at_mapUpdate; refine wpListIn_mapUpdate_own _ rfl _ _ _ 68 rfl 9 3 (Maps.string_keyed Tryz.underlying9) Tryz.underlying68 _ w.heap.size out.length D rfl hown holm _ _ _ rfl rfl hkey _ [] (plainElem_int Tryz.underlying3 hwf) ?_; intro w1 hown1 hgrow1; have hmB1 := hmb.kept hgrow1 (by simp); have hcm1 := hmB1.cell; have hvB1 := hv.kept hgrow1 (by simp; omega); have hcv1 := hvB1.cell; have huB1 := hu.kept hgrow1 (by simp; omega); have hcu1 := huB1.cell; have hbx1 := (hgrow1.block Bx (Array.getElem?_eq_some_iff.1 hbx).1 (by simp; omega)).trans hbx; have g0 := (blk_cell hbx1 0).trans rfl; have g1 := (blk_cell hbx1 1).trans rfl; have g2 := (blk_cell hbx1 2).trans rfl; have g3 := (blk_cell hbx1 3).trans rfl; have g4 := (blk_cell hbx1 4).trans rfl; have hrow1 := hrow.kept hgrow1 hnm; have hcnt1 := hcnt.kept hgrow1 hnm2; have hbx1s := (Array.getElem?_eq_some_iff.1 hbx1).1; have hbs := hb.size; have hbs1 : w.heap.size ≤ w1.heap.size := Nat.le_trans hbs hgrow1.size)
        | (gi_at_builtin; refine wpListIn_append_own _ rfl _ _ 25 rfl w.heap.size 28 i0 _ 5 48 Tryz.underlying25 hii hz0 hz1 hz2 rfl (by decide) _ out.length _ rfl (hrow1.alloc _) ⟨w1.heap.size, 0, none⟩ 1 1 [.string x.1.1, .int .i64 x.1.2.1, .int .i64 x.1.2.2, .int .i64 1, .int .i64 1] rfl rfl (ar_five _ _ _ _ _ _ _) (by simp [Value.oneCell']) (by unfold maxLen; omega) (by omega) (by have := hbx1s; simp; omega) ?_; intro v2 w2 hown2 hgrow2 _; obtain ⟨gv, cv2, rfl⟩ := ownsRow_succ hown2; obtain ⟨hvB2, hvB3, hrow3, hk3, hb3⟩ := hvB1.appended (by decide) hrow1 hbs1 (by omega) hown2 hgrow2; have hcv2 := hvB2.cell; have hfv2 := hvB2.frozen; have huB3 := ((huB1.alloc _).kept hgrow2 (huB1.not_row (by decide) hrow1)).other (B' := w.heap.size + 1 + 1) (by omega) (.slice (some ⟨gv, 0, none⟩) (out.length + 1) cv2); have hcu3 := huB3.cell; have hfu3 := huB3.frozen; have hcnt3 := ((hcnt1.alloc _).kept hgrow2 (rows_apart (by decide) hcnt1 hrow1)).kept (grownBy_setCell' w2 _ (.slice (some ⟨gv, 0, none⟩) (out.length + 1) cv2)) (.inr (hvB2.not_row (by decide) ((hcnt1.alloc _).kept hgrow2 (rows_apart (by decide) hcnt1 hrow1))).symm); have hmB3 := ((hmB1.alloc _).kept hgrow2 (hmB1.not_row (by decide) hrow1)).other (B' := w.heap.size + 1 + 1) (by omega) (.slice (some ⟨gv, 0, none⟩) (out.length + 1) cv2))
        | (gi_at_builtin; refine wpListIn_append_own _ rfl _ _ 69 rfl w.heap.size 3 j0 _ 1 8 Tryz.underlying69 hjj hy0 hy1 hy2 rfl (by decide) _ cnt.length _ rfl (hcnt3.alloc _) ⟨w2.heap.size, 0, none⟩ 1 1 [.int .i64 1] rfl rfl (cell_one_at _ _ _ _ (by simp)) (by simp [Value.oneCell']) (by unfold maxLen; omega) (by omega) (by have hz := hgrow2.size; simp at hz; simp; omega) ?_; intro v4 w4 hown4 hgrow4 _; obtain ⟨gu, cu4, rfl⟩ := ownsRow_succ hown4; obtain ⟨huB4, huB5, hrow5, hk5, hb5⟩ := huB3.appended (by decide) hcnt3 (Nat.le_trans hbs1 hb3.size) (by omega) hown4 hgrow4; have hcu4 := huB4.cell; have hfu4 := huB4.frozen))
      have hst : area_boxes.step x.1 (out, cnt) = (out ++ [⟨x.1.1, x.1.2.1, x.1.2.2, 1, 1⟩], cnt ++ [1]) := by
        unfold area_boxes.step
        dsimp only
        rw [hat]
      have hkA : KeepsFrom W0.heap.size W w1 := KeepsFrom.of_grownBy hgrow1 (fun j e => by cases e; omega)
      have hbA : Below w.heap.size W w1 := (Below.refl _ W).grown hgrow1 hb.size (fun k e => by cases e; exact Nat.le_refl _)
      have hbB := (hbA.trans hb3).trans hb5
      have hown3 := ((hown1.alloc _).kept hgrow2 (map_apart hown1 hrow1)).kept (grownBy_setCell' w2 (w.heap.size + 1 + 1) (.slice (some ⟨gv, 0, none⟩) (out.length + 1) cv2)) (fun e => by have := Option.some.inj e; omega)
      have hown5 := ((hown3.alloc _).kept hgrow4 (map_apart hown3 hcnt3)).kept (grownBy_setCell' w4 (w.heap.size + 1 + 1 + 1) (.slice (some ⟨gu, 0, none⟩) (cnt.length + 1) cu4)) (fun e => by have := Option.some.inj e; omega)
      have hrow4 := (hrow3.alloc _).kept hgrow4 (rows_apart (by decide) hrow3 hcnt3)
      have hT5 := hT.put ⟨x.1.1, x.1.2.1, x.1.2.2, 1, 1⟩ hat
      refine ⟨(hkA.trans (hk3.from _)).trans (hk5.from _), hbB, ⟨((hmB3.alloc _).kept hgrow4 (hmB3.not_row (by decide) hcnt3)).other (by omega) _, ⟨D.put (arKey x.1.1) (.lit (.int .i64 (out.length : Int))), ?_, ?_⟩, ⟨_, ((hvB3.alloc _).kept hgrow4 (hvB3.not_row (by decide) hcnt3)).other (by omega) _, ?_, trivial⟩, ⟨_, huB5, ?_, trivial⟩⟩, hb.trans hbB⟩
      · rw [hrun, hst]
        simp only [List.length_append, List.length_singleton]
        exact hown5
      · rw [hrun, hst]
        exact hT5
      · rw [hrun, hst]
        simp only [List.length_append, List.length_singleton, List.flatMap_append, List.flatMap_cons, List.flatMap_nil, List.append_nil]
        exact hrow4.kept (grownBy_setCell' w4 _ _) (.inr (huB4.not_row (by decide) hrow4).symm)
      · rw [hrun, hst]
        simp only [List.length_append, List.length_singleton, List.map_append, List.map_cons, List.map_nil]
        exact hrow5
    | some kk =>
      have hhas : Maps.has D (arKey x.1.1) = true := by rw [hT.h, hat]; rfl
      have hatk := hT.a _ _ hat
      obtain ⟨b, hbk, hbn⟩ := ar_at_some x.1.1 out kk hat
      have hkl : kk < out.length := (List.getElem?_eq_some_iff.1 hbk).1
      have hkc : kk < cnt.length := by have := HR.out; omega
      obtain ⟨m, hmk⟩ : ∃ m, cnt[kk]? = some m := ⟨_, List.getElem?_eq_getElem hkc⟩
      obtain ⟨gv, hvp⟩ : ∃ gv, vp = some ⟨gv, 0, none⟩ := by
        rcases hrow.2 with ⟨_, hn⟩ | ⟨g, cap, cur, hv0, _⟩
        · omega
        · cases hv0
          exact ⟨g, rfl⟩
      subst hvp
      obtain ⟨gu, cu, hup⟩ : ∃ gu cu, u = .slice (some ⟨gu, 0, none⟩) cnt.length cu := by
        rcases hcnt.2 with ⟨_, hn⟩ | ⟨g, cap, cur, hv0, _⟩
        · omega
        · exact ⟨g, cap, hv0⟩
      subst hup
      have hflat : ∀ i, i < 5 → (out.flatMap ArEnc)[kk * 5 + i]? = (ArEnc b)[i]? := fun i hi => flat_at out kk i hi hbk
      have q0 := (hrow.cellAt (kk * 5 + 0) (by omega)).trans (hflat 0 (by omega))
      have q1 := (hrow.cellAt (kk * 5 + 1) (by omega)).trans (hflat 1 (by omega))
      have q2 := (hrow.cellAt (kk * 5 + 2) (by omega)).trans (hflat 2 (by omega))
      have q3 := (hrow.cellAt (kk * 5 + 3) (by omega)).trans (hflat 3 (by omega))
      have q4 := (hrow.cellAt (kk * 5 + 4) (by omega)).trans (hflat 4 (by omega))
      simp only [ArEnc, List.getElem?_cons_zero, List.getElem?_cons_succ] at q0 q1 q2 q3 q4
      have d0 := (hcnt.cellAt kk (by omega)).trans (show (cnt.map (Value.int .i64))[kk]? = some (Value.int .i64 m) by simp [hmk])
      have gb := fun i => (blk_cell hbx i)
      have g1 := (blk_cell hbx 1).trans rfl
      have g2 := (blk_cell hbx 2).trans rfl
      have hka : ((⟨gv, 0, none⟩ : Addr).add (kk * 5)) = ⟨gv, kk * 5, none⟩ := by rw [addr_add, Nat.zero_add]
      have hkb : ((⟨gu, 0, none⟩ : Addr).add kk) = ⟨gu, kk, none⟩ := by rw [addr_add, Nat.zero_add]
      gi_wp2_with (gi_at_lookup; refine wpListIn_lookup_own_ok_int _ rfl _ _ 68 rfl 9 3 .i64 (Maps.string_keyed Tryz.underlying9) Tryz.underlying68 Tryz.underlying3 (Tryz.zeroValue3 _) w.heap.size out.length D rfl hown _ _ rfl hkey ?_; intro c hc1 hc2; rw [hhas]; obtain rfl : c = (kk : Int) := (by rw [hatk] at hc1; cases hc1; rfl))
      have S0 : ArSt w.heap.size Bx W0.heap.size gv vc gu cu x.1 D W out cnt W := ⟨hmb, hown, hv, hrow, hu, hcnt, hbx, hbv _ hv, KeepsFrom.refl _ _, Below.refl _ _⟩
      refine wpIn_region_still_drew (neutral_round l) 7 (by kernel_rfl) (by kernel_rfl) ?_
      intro W1 hW1
      have S1 := S0.drew
      rw [← hW1] at S1
      clear hW1
      have f2 := S1.cellV hbk (i := 2) (by decide) rfl
      have x2 := (blk_cell S1.bx 2).trans rfl
      simp only [List.take_succ_cons, List.take_zero, List.drop_succ_cons, List.drop_zero]
      repeat still_step
      refine wpStill_nil ?_
      gi_wp2
      all_goals
        refine wpIn_region_still_drew (neutral_round l) 18 (by kernel_rfl) (by kernel_rfl) ?_
        intro W2 hW2
        have S2 := S1.drew
        rw [← hW2] at S2
        clear hW2 f2 x2
        have f2 := S2.cellV hbk (i := 2) (by decide) rfl
        have f4 := S2.cellV hbk (i := 4) (by decide) rfl
        have e1 := i64_w (b.f2 + b.f4)
        have e2 := i64_w (x.1.2.2 + 1)
        have z4 := S2.vr.frozenAt (kk * 5 + 4)
        have z2 := S2.vr.frozenAt (kk * 5 + 2)
        have x2 := (blk_cell S2.bx 2).trans rfl
        simp only [List.take_succ_cons, List.take_zero, List.drop_succ_cons, List.drop_zero]
        repeat still_step
        try refine wpStill_nil ?_
      all_goals gi_wp2
      all_goals
        first
        | (exfalso; omega)
        | (refine wpIn_region_still_drew (neutral_round l) 11 (by kernel_rfl) (by kernel_rfl) ?_
           intro W5 hW5a
           obtain ⟨v4, v2, hW5, hv4, hv2⟩ : ∃ v4 v2 : Int, W5 = ((W2.setCell ⟨gv, kk * 5 + 4, none⟩ (.int .i64 v4)).setCell ⟨gv, kk * 5 + 2, none⟩ (.int .i64 v2)).drew ∧ v4 = wrap64 (max (wrap64 (b.f2 + b.f4)) (wrap64 (x.1.2.2 + 1)) - min b.f2 x.1.2.2) ∧ v2 = min b.f2 x.1.2.2 := by
             refine ⟨_, _, hW5a, ?_, ?_⟩
             · congr 1 <;> omega
             · omega
           have S5 := ((S2.stV (out' := out.set kk ⟨b.f0, b.f1, b.f2, b.f3, v4⟩) (kk * 5 + 4) (.int .i64 v4) (flat_set out kk 4 (by decide) hbk rfl) (by simp)).stV (out' := out.set kk ⟨b.f0, b.f1, v2, b.f3, v4⟩) (kk * 5 + 2) (.int .i64 v2) ((by rw [List.set_set] : _ = ((out.set kk (⟨b.f0, b.f1, b.f2, b.f3, v4⟩ : S28)).set kk ⟨b.f0, b.f1, v2, b.f3, v4⟩).flatMap ArEnc) ▸ flat_set _ kk 2 (by decide) (List.getElem?_set_self hkl) rfl) (by simp)).drew
           rw [← hW5] at S5
           clear hW5a hW5 f2 f4 z4 z2 x2 S2 S1 S0
           have hb2 : (out.set kk (⟨b.f0, b.f1, v2, b.f3, v4⟩ : S28))[kk]? = some ⟨b.f0, b.f1, v2, b.f3, v4⟩ := List.getElem?_set_self hkl
           have f1 : W5.cell? ⟨gv, kk * 5 + 1, none⟩ = some (.int .i64 b.f1) := S5.cellV hb2 (i := 1) (by decide) rfl
           have f3 : W5.cell? ⟨gv, kk * 5 + 3, none⟩ = some (.int .i64 b.f3) := S5.cellV hb2 (i := 3) (by decide) rfl
           have z3 := S5.vr.frozenAt (kk * 5 + 3)
           have x1 : W5.cell? ⟨Bx, 1, none⟩ = some (.int .i64 x.1.2.1) := (blk_cell S5.bx 1).trans rfl
           simp only [List.take_succ_cons, List.take_zero, List.drop_succ_cons, List.drop_zero]
           repeat still_step
           refine wpStill_nil ?_
           have y1 := S5.cellU hmk
           have zu := S5.ur.frozenAt kk
           have cbu := S5.ub.cell
           have n1 : ¬ w.heap.size + 1 + 1 + 1 = gv := fun e => S5.ub.not_row (by decide) S5.vr (by rw [e]; rfl)
           have n2 : ¬ gu = gv := by
             rcases rows_apart (by decide) S5.ur S5.vr with e | e
             · cases e
             · exact fun h => e (by rw [h]; rfl)
           gi_wp2
           have hxg : ∀ {o'} {W'}, ArSt w.heap.size Bx W0.heap.size gv vc gu cu x.1 D W o' cnt W' → some Bx ≠ some gu := by
             intro o' W' S e
             rcases S.ur.2 with ⟨hv0, _⟩ | ⟨g, cap, cur, hv0, _, hgb, _⟩
             · cases hv0
             · simp only [Value.slice.injEq, Option.some.injEq, Addr.mk.injEq] at hv0
               obtain ⟨⟨rfl, _⟩, _⟩ := hv0
               have hbx5 := S.bx
               rw [Option.some.inj e, hgb] at hbx5
               simp at hbx5
           have S7 := (S5.stV (out' := out.set kk (area_boxes.wide b x.1.2.1 x.1.2.2)) (kk * 5 + 3) (.int .i64 (wrap64 (wrap64 (x.1.2.1 + 1) - b.f1))) ((by rw [List.set_set] : _ = ((out.set kk (⟨b.f0, b.f1, v2, b.f3, v4⟩ : S28)).set kk (area_boxes.wide b x.1.2.1 x.1.2.2)).flatMap ArEnc) ▸ flat_set _ kk 3 (by decide) hb2 (by rw [hv2, hv4]; rfl)) (by simp)).stU (hxg (S5.stV (out' := out.set kk (area_boxes.wide b x.1.2.1 x.1.2.2)) (kk * 5 + 3) (.int .i64 (wrap64 (wrap64 (x.1.2.1 + 1) - b.f1))) ((by rw [List.set_set] : _ = ((out.set kk (⟨b.f0, b.f1, v2, b.f3, v4⟩ : S28)).set kk (area_boxes.wide b x.1.2.1 x.1.2.2)).flatMap ArEnc) ▸ flat_set _ kk 3 (by decide) hb2 (by rw [hv2, hv4]; rfl)) (by simp))) kk (wrap64 (m + 1))
           have hst : area_boxes.step x.1 (out, cnt) = (out.set kk (area_boxes.wide b x.1.2.1 x.1.2.2), cnt.set kk (wrap64 (m + 1))) := by
             unfold area_boxes.step
             dsimp only
             rw [hat]
             dsimp only
             rw [modify_set hbk, modify_set hmk]
           refine ⟨S7.kf, S7.bl, ⟨S7.mb, ⟨D, ?_, ?_⟩, ⟨_, S7.vb, ?_, trivial⟩, ⟨_, S7.ub, ?_, trivial⟩⟩, hb.trans S7.bl⟩
           · rw [hrun, hst]
             exact S7.om
           · rw [hrun, hst]
             exact hT.same (names_set (b' := area_boxes.wide b x.1.2.1 x.1.2.2) hbk rfl).symm
           · rw [hrun, hst]
             exact S7.vr
           · rw [hrun, hst]
             exact S7.ur)
  case done =>
    rintro Dd ys W hD rfl ⟨⟨hmb, _, ⟨v, hv, hrow, _⟩, ⟨u, hu, hcnt, _⟩⟩, hB⟩ hK
    obtain ⟨out, hout⟩ : ∃ out, (area_boxes.run (ArCell.list ys)).1 = out := ⟨_, rfl⟩
    obtain ⟨cnt, hcn2⟩ : ∃ cnt, (area_boxes.run (ArCell.list ys)).2 = cnt := ⟨_, rfl⟩
    obtain ⟨hrl1, hrl2⟩ := ar_run_len _ (ArCell.list ys) rfl
    have hpl : (ArCell.list ys).length = (area_boxes.cells l0 0).length := by rw [← hxs]; simp [ArCell.list]
    rw [hout, hpl] at hrl2
    rw [hout, hcn2] at hrl1
    rw [hout] at hrow
    rw [hcn2] at hcnt
    rw [show area_boxes.cells l0 0 = ArCell.list ys from hxs.symm, hout, hcn2] at h
    have hol : out.length < 1000000 := by omega
    have HR := Aside0.mk hrl1
    have H := Aside0.mk h
    clear hrl1 hrl2 h
    obtain ⟨vp, vc, rfl⟩ : ∃ p c, v = .slice p out.length c := by
      rcases hrow.2 with ⟨hv0, hn⟩ | ⟨g, cap, cur, hv0, _⟩
      · exact ⟨none, 0, by rw [hv0, hn]⟩
      · exact ⟨_, _, hv0⟩
    obtain ⟨up, uc, rfl⟩ : ∃ p c, u = .slice p cnt.length c := by
      rcases hcnt.2 with ⟨hv0, hn⟩ | ⟨g, cap, cur, hv0, _⟩
      · exact ⟨none, 0, by rw [hv0, hn]⟩
      · exact ⟨_, _, hv0⟩
    have hcv := hv.cell
    have hcu := hu.cell
    gi_wp2
    gi_loopw [90] (fun v90 wr => ∃ (i : Nat), i ≤ out.length ∧ v90 = .int .i64 i ∧ Aside0 (area_boxes.full out cnt = area_boxes.full (out.drop i) (cnt.drop i)) ∧ Boxed wr (w.heap.size + 1 + 1) 25 (.slice vp out.length vc) ∧ wr.ownsRow w.heap.size 28 5 (.slice vp out.length vc) out.length (out.flatMap ArEnc) ∧ Boxed wr (w.heap.size + 1 + 1 + 1) 69 (.slice up cnt.length uc) ∧ wr.ownsRow w.heap.size 3 1 (.slice up cnt.length uc) cnt.length (cnt.map (Value.int .i64)) ∧ wr.heap[Dd]? = some (.deferred (some [])) ∧ Below w.heap.size w wr)
      (fun v90 _ => out.length - (intOf v90).toNat)
    case atStart => exact ⟨0, Nat.zero_le _, rfl, ⟨rfl⟩, hv, hrow, hu, hcnt, hK, hB⟩
    case round =>
      obtain ⟨i, hi, rfl, HF, hv, hrow, hu, hcnt, hK, hB⟩ := hrel
      have hcv := hv.cell
      have hcu := hu.cell
      by_cases hlt : i < out.length
      · obtain ⟨gv, hvp⟩ : ∃ gv, vp = some ⟨gv, 0, none⟩ := by
          rcases hrow.2 with ⟨_, hn⟩ | ⟨g, cap, cur, hv0, _⟩
          · omega
          · cases hv0
            exact ⟨g, rfl⟩
        subst hvp
        have hlc : i < cnt.length := by have := HR.out; omega
        obtain ⟨gu, hup⟩ : ∃ gu, up = some ⟨gu, 0, none⟩ := by
          rcases hcnt.2 with ⟨_, hn⟩ | ⟨g, cap, cur, hv0, _⟩
          · omega
          · cases hv0
            exact ⟨g, rfl⟩
        subst hup
        obtain ⟨b, hbk⟩ : ∃ b, out[i]? = some b := ⟨_, List.getElem?_eq_getElem hlt⟩
        obtain ⟨m, hmk⟩ : ∃ m, cnt[i]? = some m := ⟨_, List.getElem?_eq_getElem hlc⟩
        have hF2 : area_boxes.full (out.drop i) (cnt.drop i) = (decide (wrap64 (b.f3 * b.f4) = m) && area_boxes.full (out.drop (i + 1)) (cnt.drop (i + 1))) := by
          rw [List.drop_eq_getElem_cons hlt, List.drop_eq_getElem_cons hlc, (List.getElem?_eq_some_iff.1 hbk).2, (List.getElem?_eq_some_iff.1 hmk).2]
          rfl
        have HF2 := Aside0.mk (HF.out.trans hF2)
        clear hF2
        have q0 : wr.cell? ⟨gv, i * 5, none⟩ = some (.string b.f0) := (hrow.cellAt (i * 5) (by omega)).trans (flat_at out i 0 (by decide) hbk)
        have q1 : wr.cell? ⟨gv, i * 5 + 1, none⟩ = some (.int .i64 b.f1) := (hrow.cellAt (i * 5 + 1) (by omega)).trans (flat_at out i 1 (by decide) hbk)
        have q2 : wr.cell? ⟨gv, i * 5 + 2, none⟩ = some (.int .i64 b.f2) := (hrow.cellAt (i * 5 + 2) (by omega)).trans (flat_at out i 2 (by decide) hbk)
        have q3 : wr.cell? ⟨gv, i * 5 + 3, none⟩ = some (.int .i64 b.f3) := (hrow.cellAt (i * 5 + 3) (by omega)).trans (flat_at out i 3 (by decide) hbk)
        have q4 : wr.cell? ⟨gv, i * 5 + 4, none⟩ = some (.int .i64 b.f4) := (hrow.cellAt (i * 5 + 4) (by omega)).trans (flat_at out i 4 (by decide) hbk)
        have hka : ((⟨gv, 0, none⟩ : Addr).add (i * 5)) = ⟨gv, i * 5, none⟩ := by rw [addr_add, Nat.zero_add]
        have hkb : ((⟨gu, 0, none⟩ : Addr).add i) = ⟨gu, i, none⟩ := by rw [addr_add, Nat.zero_add]
        have hii := ar_info
        gi_wp2
        refine wpIn_region_still_drew neutral_wide 9 (by kernel_rfl) (by kernel_rfl) ?_
        intro W1 hW1
        have hv1 : Boxed W1 (w.heap.size + 1 + 1) 25 (.slice (some ⟨gv, 0, none⟩) out.length vc) := by rw [hW1]; exact hv.alloc _
        have hu1 : Boxed W1 (w.heap.size + 1 + 1 + 1) 69 (.slice (some ⟨gu, 0, none⟩) cnt.length uc) := by rw [hW1]; exact hu.alloc _
        have hrow1 : W1.ownsRow w.heap.size 28 5 (.slice (some ⟨gv, 0, none⟩) out.length vc) out.length (out.flatMap ArEnc) := by rw [hW1]; exact (hrow.alloc _).drew
        have hcnt1 : W1.ownsRow w.heap.size 3 1 (.slice (some ⟨gu, 0, none⟩) cnt.length uc) cnt.length (cnt.map (Value.int .i64)) := by rw [hW1]; exact (hcnt.alloc _).drew
        have hbn : W1.heap[wr.heap.size]? = some (.cells #[.string b.f0, .int .i64 b.f1, .int .i64 b.f2, .int .i64 b.f3, .int .i64 b.f4] 28 (0, 0)) := by rw [hW1]; exact World.alloc_heap_new wr _
        have hK1 : W1.heap[Dd]? = some (.deferred (some [])) := by rw [hW1]; exact (Below.heap_alloc wr _ Dd (Array.getElem?_eq_some_iff.1 hK).1).trans hK
        have hB1 : Below w.heap.size w W1 := by rw [hW1]; exact (hB.alloc hB.size _).drew
        clear hW1
        have p3 : W1.cell? ⟨wr.heap.size, 3, none⟩ = some (.int .i64 b.f3) := (blk_cell hbn 3).trans rfl
        have p4 : W1.cell? ⟨wr.heap.size, 4, none⟩ = some (.int .i64 b.f4) := (blk_cell hbn 4).trans rfl
        have hcu1 := hu1.cell
        have d1 : W1.cell? ⟨gu, i, none⟩ = some (.int .i64 m) := (hcnt1.cellAt i (by omega)).trans (by simp [hmk])
        have e1 := i64_w (b.f3 * b.f4)
        by_cases hm : wrap64 (b.f3 * b.f4) = m
        · simp only [List.take_succ_cons, List.take_zero, List.drop_succ_cons, List.drop_zero]
          repeat still_step
          refine wpStill_nil ?_
          gi_wp2
          go_roundw
          case rel => exact ⟨i + 1, by omega, by simp, ⟨HF2.out.trans (by rw [decide_eq_true hm, Bool.true_and])⟩, hv1, hrow1, hu1, hcnt1, hK1, hB1⟩
          case measure => simp [intOf]; omega
        · simp only [List.take_succ_cons, List.take_zero, List.drop_succ_cons, List.drop_zero]
          repeat still_step
          refine wpStill_nil ?_
          gi_wp2
          refine ⟨by simp, .inl ⟨_, _, rfl, run_takeDeferred hK1, ?_⟩⟩
          have hH := H.out
          have hF := HF2.out
          rw [decide_eq_false hm, Bool.false_and] at hF
          rw [hF, if_neg (by decide)] at hH
          simp only [Option.some.injEq, Prod.mk.injEq] at hH
          obtain ⟨rfl, rfl⟩ := hH
          refine ⟨_, results_tmp2 rfl _ _ _, _, rfl, Kd.R_nil _ _ _ _ _, hB1.trans (belowK_b (w := w) (Nat.le_refl _) W1 Dd _ _ (by omega) hK1 rfl rfl)⟩
      · obtain rfl : i = out.length := by omega
        gi_wp2
        refine ⟨by simp, .inl ⟨_, _, rfl, run_takeDeferred hK, ?_⟩⟩
        have hH := H.out
        have hF := HF.out
        rw [List.drop_length] at hF
        rw [hF, show area_boxes.full [] (cnt.drop out.length) = true from by cases cnt.drop out.length <;> rfl, if_pos rfl] at hH
        simp only [Option.some.injEq, Prod.mk.injEq] at hH
        obtain ⟨rfl, rfl⟩ := hH
        refine ⟨_, results_tmp2 rfl _ _ _, _, rfl, ar_R (ownsRow_putObj hrow _ hK rfl), hB.trans (belowK_b (w := w) (Nat.le_refl _) wr Dd _ _ (by omega) hK rfl rfl)⟩
  case stop =>
    rintro D c pre W _ _ h _
    exact h.elim
end Go.Proofs.YtofdhdafabmhmaaGreatDoor.Giv
end
section
namespace Go.Proofs.YtofdhdafabmhmaaGreatDoor.Giv
open Go.RowKit Go.Proofs.YtofdhdafabmhmaaGreatDoorW.PrintWords Go.Proofs.YtofdhdafabmhmaaGreatDoorW.PrintLast Go.Proofs.YtofdhdafabmhmaaGreatDoorW.PrintMore Go.Proofs.YtofdhdafabmhmaaGreatDoor.PAr
open Go.Proofs.YtofdhdafabmhmaaGreatDoor.Opn Go.BigFrame
/-- What the function of that number tells of a byte. -/
def area_run.test (p : Nat) (c : Int) : Option Bool := if p = 27 then area_inner.f c else if p = 97 then area_point.f c else none
def area_run.l0 : Nat → ByteArray → Nat → Int → Option Int
  | 0, _, _, _ => none
  | k + 1, s, p, n => if n < (s.size : Int) then (if 0 ≤ n then ((area_run.test p (bt s n)).bind fun t => (if t = true then area_run.l0 k s p (wrap64 (n + 1)) else some n)) else none) else some n
def area_run.f (k : Nat) (s : ByteArray) (p : Nat) : Option Int := if p = 27 ∨ p = 97 then area_run.l0 k s p 0 else none
theorem area_run.mono_l : ∀ k s p n, LeO (area_run.l0 k s p n) (area_run.l0 (k + 1) s p n)
  | 0, _, _, _ => fun r h => by simp [area_run.l0] at h
  | k + 1, s, p, n => by
    have ih := area_run.mono_l k
    unfold area_run.l0
    refine LeO.ite (LeO.ite (LeO.bind (LeO.refl _) (fun _ => LeO.ite (ih _ _ _) (LeO.refl _))) (LeO.none _)) (LeO.refl _)
theorem area_run.mono : ∀ s p k, LeO (area_run.f k s p) (area_run.f (k + 1) s p) := by
  intro s p k
  unfold area_run.f
  exact LeO.ite (area_run.mono_l _ _ _ _) (LeO.none _)
set_option maxHeartbeats 8000000 in
set_option maxRecDepth 100000 in
theorem area_run.calls_inner (k : Nat) (a0 : ByteArray) (r : Int) (w : World) (h : area_run.l0 k a0 27 0 = some r) :
    Calls Tryz.prog 26 #[.string a0, .func (.func 27) #[] #[]] w fun e w' => e = .returned (.int .i64 r) ∧ Drawn0 w w' := by
  have H' := Aside0.mk h
  clear h
  go_enter Tryz.func26, Tryz.ntmps26
  go_wp2
  go_loopg [4] k (fun kq v4 w' => ∃ (n : Int), v4 = .int .i64 n ∧ Aside0 (area_run.l0 kq a0 27 n = some r) ∧ Aside0 (kq ≤ k) ∧ Drawn0 w w')
  case atStart => exact ⟨0, rfl, H', ⟨Nat.le_refl _⟩, drs_⟩
  case round =>
    clear H'
    obtain ⟨n, rfl, HA, HK, hd⟩ := hrel
    obtain ⟨nd0, rfl⟩ := hd
    cases gk with
    | zero => exact absurd HA.out (by simp [area_run.l0])
    | succ k1 =>
      have H := HA.out
      clear HA
      simp only [area_run.l0] at H
      by_cases c1 : n < (a0.size : Int)
      · rw [if_pos c1] at H
        have c1b0 : decide (n < (a0.size : Int)) = true := decide_eq_true c1
        clear c1
        by_cases c2 : 0 ≤ n
        · rw [if_pos c2] at H
          have c2b0 : decide (0 ≤ n) = true := decide_eq_true c2
          clear c2
          obtain ⟨t, ht, H⟩ := Option.bind_eq_some_iff.mp H
          replace ht : area_inner.f (bt a0 n) = some t := ht
          have A1 := Aside0.mk ht
          clear ht
          have p1 : 0 ≤ (n : Int) := of_decide_eq_true (by first | (with_reducible assumption) | assumption)
          have q1 : n < (a0.size : Int) := of_decide_eq_true (by first | (with_reducible assumption) | assumption)
          have hx1 := bt_at a0 n
          replace p1 := eq_true p1
          replace q1 := eq_true q1
          cases t with
          | true =>
            rw [if_pos rfl] at H
            have H' := Aside0.mk H
            clear H
            go_wp2_with (first | (go_at_call 27; (with_reducible refine (area_inner.calls (bt a0 n) true _ A1.out).mono ?_); rintro e w' ⟨rfl, ⟨nd, rfl⟩⟩))
            go_roundg k1
            case measure => have := HK.out; omega
            case rel => exact ⟨(wrap64 (n + 1)), (by first | rfl | (simp; done) | (simp [*]; done)), H', ⟨by have := HK.out; omega⟩, drs_⟩
          | false =>
            rw [if_neg (by decide)] at H
            obtain rfl := Option.some.inj H
            clear H
            go_wp2_with (first | (go_at_call 27; (with_reducible refine (area_inner.calls (bt a0 n) false _ A1.out).mono ?_); rintro e w' ⟨rfl, ⟨nd, rfl⟩⟩))
            go_ret
            exact ⟨by first | rfl | (simp; done) | (simp [*]; done), drs_⟩
        · rw [if_neg c2] at H
          exact absurd H (by simp)
      · rw [if_neg c1] at H
        have c1b0 : decide (n < (a0.size : Int)) = false := decide_eq_false c1
        clear c1
        obtain rfl := Option.some.inj H
        clear H
        go_wp2
        go_ret
        exact ⟨by first | rfl | (simp; done) | (simp [*]; done), drs_⟩
set_option maxHeartbeats 8000000 in
set_option maxRecDepth 100000 in
theorem area_run.calls_point (k : Nat) (a0 : ByteArray) (r : Int) (w : World) (h : area_run.l0 k a0 97 0 = some r) :
    Calls Tryz.prog 26 #[.string a0, .func (.func 97) #[] #[]] w fun e w' => e = .returned (.int .i64 r) ∧ Drawn0 w w' := by
  have H' := Aside0.mk h
  clear h
  go_enter Tryz.func26, Tryz.ntmps26
  go_wp2
  go_loopg [4] k (fun kq v4 w' => ∃ (n : Int), v4 = .int .i64 n ∧ Aside0 (area_run.l0 kq a0 97 n = some r) ∧ Aside0 (kq ≤ k) ∧ Drawn0 w w')
  case atStart => exact ⟨0, rfl, H', ⟨Nat.le_refl _⟩, drs_⟩
  case round =>
    clear H'
    obtain ⟨n, rfl, HA, HK, hd⟩ := hrel
    obtain ⟨nd0, rfl⟩ := hd
    cases gk with
    | zero => exact absurd HA.out (by simp [area_run.l0])
    | succ k1 =>
      have H := HA.out
      clear HA
      simp only [area_run.l0] at H
      by_cases c1 : n < (a0.size : Int)
      · rw [if_pos c1] at H
        have c1b0 : decide (n < (a0.size : Int)) = true := decide_eq_true c1
        clear c1
        by_cases c2 : 0 ≤ n
        · rw [if_pos c2] at H
          have c2b0 : decide (0 ≤ n) = true := decide_eq_true c2
          clear c2
          obtain ⟨t, ht, H⟩ := Option.bind_eq_some_iff.mp H
          replace ht : area_point.f (bt a0 n) = some t := ht
          have A1 := Aside0.mk ht
          clear ht
          have p1 : 0 ≤ (n : Int) := of_decide_eq_true (by first | (with_reducible assumption) | assumption)
          have q1 : n < (a0.size : Int) := of_decide_eq_true (by first | (with_reducible assumption) | assumption)
          have hx1 := bt_at a0 n
          replace p1 := eq_true p1
          replace q1 := eq_true q1
          cases t with
          | true =>
            rw [if_pos rfl] at H
            have H' := Aside0.mk H
            clear H
            go_wp2_with (first | (go_at_call 97; (with_reducible refine (area_point.calls (bt a0 n) true _ A1.out).mono ?_); rintro e w' ⟨rfl, ⟨nd, rfl⟩⟩))
            go_roundg k1
            case measure => have := HK.out; omega
            case rel => exact ⟨(wrap64 (n + 1)), (by first | rfl | (simp; done) | (simp [*]; done)), H', ⟨by have := HK.out; omega⟩, drs_⟩
          | false =>
            rw [if_neg (by decide)] at H
            obtain rfl := Option.some.inj H
            clear H
            go_wp2_with (first | (go_at_call 97; (with_reducible refine (area_point.calls (bt a0 n) false _ A1.out).mono ?_); rintro e w' ⟨rfl, ⟨nd, rfl⟩⟩))
            go_ret
            exact ⟨by first | rfl | (simp; done) | (simp [*]; done), drs_⟩
        · rw [if_neg c2] at H
          exact absurd H (by simp)
      · rw [if_neg c1] at H
        have c1b0 : decide (n < (a0.size : Int)) = false := decide_eq_false c1
        clear c1
        obtain rfl := Option.some.inj H
        clear H
        go_wp2
        go_ret
        exact ⟨by first | rfl | (simp; done) | (simp [*]; done), drs_⟩
theorem area_run.calls (k : Nat) (a0 : ByteArray) (a1 : Nat) (r : Int) (w : World) (h : area_run.f k a0 a1 = some r) :
    Calls Tryz.prog 26 #[.string a0, .func (.func a1) #[] #[]] w fun e w' => e = .returned (.int .i64 r) ∧ Drawn0 w w' := by
  unfold area_run.f at h
  split at h
  · rename_i hp
    rcases hp with rfl | rfl
    · exact area_run.calls_inner k a0 r w h
    · exact area_run.calls_point k a0 r w h
  · cases h
end Go.Proofs.YtofdhdafabmhmaaGreatDoor.Giv
end
