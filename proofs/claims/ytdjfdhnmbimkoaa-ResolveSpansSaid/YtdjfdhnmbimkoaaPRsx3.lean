-- Written by a program of this session (wip/p2) out of the translation; Lean checks it.
import Derived.Test.YtdjfdhnmbimkoaaSq
import Derived.Test.YtdjfdhnmbimkoaaPRsx0
import Derived.Test.YtdjfdhnmbimkoaaShelf
namespace Go.Proofs.Ytdjfdhnmbimkoaa.PRs
open Go.RowKit Go.Proofs.YtdjfdhnmbimkoaaW.PrintWords Go.Proofs.YtdjfdhnmbimkoaaW.PrintLast Go.Proofs.YtdjfdhnmbimkoaaW.PrintMore
attribute [local go_sem] max2_int min2_int max_two min_two max_three min_three max_four min_four   -- for this text's walks alone
set_option linter.unusedVariables false
set_option linter.unusedSimpArgs false
open Go.Proofs.Ytdjfdhnmbimkoaa.Opn Go.Proofs.Ytdjfdhnmbimkoaa.Giv

/-! ### parterrelaw18_light: function 54 -/
def parterrelaw18_light.l0 : Nat → Int → List (List ByteArray) → Int → Int → Option (Bool)
 | 0, _, _, _, _ => none
 | k + 1, x3, x6, x7, x8 => if x8 < x7 then (if 0 ≤ x8 then (if x8 < (x6.length : Int) then (if (wrap64 (x3 + (1 + (mn ((rd_L1 x6 x8).length : Int) 1000)))) > 600 then (some false) else (parterrelaw18_light.l0 k (wrap64 (x3 + (1 + (mn ((rd_L1 x6 x8).length : Int) 1000)))) x6 x7 (wrap64 (x8 + 1)))) else (none)) else (none)) else (some true)
def parterrelaw18_light.f (k : Nat) (l0 : List (List ByteArray)) : Option (Bool) := parterrelaw18_light.l0 k 0 l0 (l0.length : Int) 0
theorem parterrelaw18_light.mono_l : ∀ k, (∀ y0 y1 y2 y3, LeO (parterrelaw18_light.l0 k y0 y1 y2 y3) (parterrelaw18_light.l0 (k + 1) y0 y1 y2 y3))
 | 0 => fun _ _ _ _ r h => by simp [parterrelaw18_light.l0] at h
 | k + 1 => by
  have ih0 := parterrelaw18_light.mono_l k
  ·intro y0 y1 y2 y3
   unfold parterrelaw18_light.l0
   repeat' first
   | (with_reducible exact ih0 _ _ _ _)
   | (with_reducible exact LeO.refl _)
   | (with_reducible exact LeO.none _)
   | (with_reducible refine LeO.ite ?_ ?_)
   | (with_reducible refine LeO.bind ?_ (fun _ => ?_))
theorem parterrelaw18_light.mono : ∀ a0 k, LeO (parterrelaw18_light.f k a0) (parterrelaw18_light.f (k + 1) a0) := by
 intro a0 k
 have ih0 := parterrelaw18_light.mono_l k
 unfold parterrelaw18_light.f
 repeat' first
   | (with_reducible exact ih0 _ _ _ _)
   | (with_reducible exact LeO.refl _)
   | (with_reducible exact LeO.none _)
   | (with_reducible refine LeO.ite ?_ ?_)
   | (with_reducible refine LeO.bind ?_ (fun _ => ?_))
set_option maxHeartbeats 8000000 in
set_option maxRecDepth 100000 in
theorem parterrelaw18_light.calls (k : Nat) (A0 : Option Addr) (c0 : Nat) (l0 : List (List ByteArray)) (r : Bool) (w : World) (hr0 : Kd.C (Kd.slice 9 Kd.string) w A0 l0.length l0) (hc0 : l0.length ≤ c0) (h : parterrelaw18_light.f k l0 = some r) :
  Calls Try.prog 54 #[.slice A0 l0.length c0] w fun e w' => e = .returned (.bool r) ∧ Below w.heap.size w w' := by
 have HR0 := Aside0.mk hr0
 have HC0 := Aside0.mk hc0
 clear hr0 hc0
 have HB := Aside0.mk (Below.refl w.heap.size w)
 have H : (parterrelaw18_light.l0 k 0 l0 (l0.length : Int) 0) = some r := h
 clear h
 have H' := Aside0.mk H
 clear H
 go_enter Try.func54, Try.ntmps54
 go_wp2
 go_loopg [3, 8] k (fun kq v3 v8 w' => ∃ (x3_1 : Int) (x8_1 : Int), v3 = .int .i64 x3_1 ∧ v8 = .int .i64 x8_1 ∧ Aside0 (parterrelaw18_light.l0 kq x3_1 l0 (l0.length : Int) x8_1 = some r) ∧ Aside0 (kq ≤ k) ∧ Aside0 (Below w.heap.size w w'))
 case atStart => exact ⟨(0), (0), rfs_, rfs_, H', ⟨Nat.le_refl _⟩, ⟨bel_⟩⟩
 case round =>
  clear H'
  obtain ⟨x3_1, x8_1, rfl, rfl, HA, HK1, HB⟩ := hrel
  cases gk with
  | zero => exact absurd HA.out (by simp [parterrelaw18_light.l0])
  | succ k1 =>
   have H := HA.out
   clear HA
   simp only [parterrelaw18_light.l0] at H
   by_cases c2 : x8_1 < (l0.length : Int)
   ·rw [if_pos c2] at H
    have c2b0 : decide (x8_1 < (l0.length : Int)) = true := decide_eq_true c2
    clear c2
    by_cases c3 : 0 ≤ x8_1
    ·rw [if_pos c3] at H
     have c3b0 : decide (0 ≤ x8_1) = true := decide_eq_true c3
     clear c3
     by_cases c4 : x8_1 < (l0.length : Int)
     ·rw [if_pos c4] at H
      have c4b0 : decide (x8_1 < (l0.length : Int)) = true := decide_eq_true c4
      clear c4
      obtain ⟨ji5, hji5⟩ : ∃ j_ : Int, (mn ((rd_L1 l0 x8_1).length : Int) 1000) = j_ := ⟨_, rfl⟩
      replace H : (if (wrap64 (x3_1 + (1 + (ji5)))) > 600 then (some false) else (parterrelaw18_light.l0 k1 (wrap64 (x3_1 + (1 + (ji5)))) l0 (l0.length : Int) (wrap64 (x8_1 + 1)))) = some r := by first | (rw [hji5] at H; exact H) | (simp only [hji5] at H ⊢; exact H)
      have hji5_ : (if 1000 < ((rd_L1 l0 x8_1).length : Int) then 1000 else ((rd_L1 l0 x8_1).length : Int)) = ji5 := hji5
      by_cases c6 : (wrap64 (x3_1 + (1 + (ji5)))) > 600
      ·rw [if_pos c6] at H
       have c6b0 : decide (600 < (wrap64 (x3_1 + (1 + (ji5))))) = true := decide_eq_true c6
       clear c6
       obtain rfl := Option.some.inj H
       have p101 : 0 ≤ (x8_1 : Int) := of_decide_eq_true (by first | (with_reducible assumption) | assumption)
       have q101 : x8_1 < (l0.length : Int) := of_decide_eq_true (by first | (with_reducible assumption) | assumption)
       obtain ⟨ad101, A101_0, c101_0, e101, hx101_0, hl101_0, hi101_0⟩ := at_L1 HR0.out x8_1 p101 q101
       cases e101
       replace hx101_0 := (HB.out.cell (World.block_lt_of_cell? w _ hx101_0)).trans hx101_0
       have HR101_0 := Aside0.mk hi101_0
       have HC101_0 := Aside0.mk hl101_0
       clear hi101_0 hl101_0
       replace p101 := eq_true p101
       replace q101 := eq_true q101
       go_wp2
       go_ret
       exact ⟨by first | rfl | (simp [errW_none, errW_some] <;> rfl) | (simp only [← hji5]; first | rfl | (simp [errW_none, errW_some] <;> rfl)) | (simp [*, errW_none, errW_some] <;> rfl), bel_⟩
      ·rw [if_neg c6] at H
       have c6b0 : decide (600 < (wrap64 (x3_1 + (1 + (ji5))))) = false := decide_eq_false c6
       clear c6
       have H' := Aside0.mk H
       clear H
       have p101 : 0 ≤ (x8_1 : Int) := of_decide_eq_true (by first | (with_reducible assumption) | assumption)
       have q101 : x8_1 < (l0.length : Int) := of_decide_eq_true (by first | (with_reducible assumption) | assumption)
       obtain ⟨ad101, A101_0, c101_0, e101, hx101_0, hl101_0, hi101_0⟩ := at_L1 HR0.out x8_1 p101 q101
       cases e101
       replace hx101_0 := (HB.out.cell (World.block_lt_of_cell? w _ hx101_0)).trans hx101_0
       have HR101_0 := Aside0.mk hi101_0
       have HC101_0 := Aside0.mk hl101_0
       clear hi101_0 hl101_0
       replace p101 := eq_true p101
       replace q101 := eq_true q101
       go_wp2
       go_roundg k1
       case measure => have := HK1.out; omega
       case rel => exact ⟨(wrap64 (x3_1 + (1 + (ji5)))), (wrap64 (x8_1 + 1)), (by first | rfl | (simp; done) | (simp only [← hji5] <;> (first | rfl | simp)) | (simp [*]; done)), rfs_, H', ⟨by have := HK1.out; omega⟩, ⟨bel_⟩⟩
     ·rw [if_neg c4] at H
      exact absurd H (by simp)
    ·rw [if_neg c3] at H
     exact absurd H (by simp)
   ·rw [if_neg c2] at H
    have c2b0 : decide (x8_1 < (l0.length : Int)) = false := decide_eq_false c2
    clear c2
    obtain rfl := Option.some.inj H
    go_wp2
    go_ret
    exact ⟨rsl_, bel_⟩

/-! ### ident_Lower: function 46 -/
def ident_Lower.low (c : Int) : Int := if c ≥ 65 then (if c ≤ 90 then c + 32 else c) else c
def ident_Lower.at (s : ByteArray) (i j : Nat) : Int := if j < i then ident_Lower.low (bt s j) else bt s j
def ident_Lower.f (s : ByteArray) : Option ByteArray := if s.size ≤ 140737488351232 then some (strOfNums ((List.range s.size).map fun j => ident_Lower.low (bt s (j : Nat)))) else none
structure ident_Lower.Holds (w w1 : World) (g : Nat) (s : ByteArray) (i : Nat) : Prop where
 lo : w.heap.size ≤ g
 b : Below w.heap.size w w1
 o : ∃ cs lo hi, w1.heap[g]? = some (.cells cs 5 (lo, hi)) ∧ (∀ j, j < s.size → cs[j]? = some (.int .u8 (ident_Lower.at s i j))) ∧ s.size ≤ lo
theorem ident_Lower.Holds.cell {w w1 : World} {g : Nat} {s : ByteArray} {i : Nat} (h : ident_Lower.Holds w w1 g s i) {j : Nat} (hj : j < s.size) : w1.cell? ⟨g, j, none⟩ = some (.int .u8 (ident_Lower.at s i j)) := by
 obtain ⟨cs, lo, hi, h1, h2, h3⟩ := h.o
 rw [cell_of_row _ _ _ _ _ _ h1]
 exact h2 j hj
theorem ident_Lower.Holds.froz {w w1 : World} {g : Nat} {s : ByteArray} {i : Nat} (h : ident_Lower.Holds w w1 g s i) {j : Nat} (hj : j < s.size) : w1.frozen? ⟨g, j, none⟩ = false := by
 obtain ⟨cs, lo, hi, h1, h2, h3⟩ := h.o
 have : ¬ lo ≤ j := by omega
 simp [World.frozen?, h1, this]
theorem ident_Lower.Holds.start (w : World) (s : ByteArray) : ident_Lower.Holds w (Lib.bytesWorld w 5 s) w.heap.size s 0 := by
 refine ⟨Nat.le_refl _, bytes_below (Below.refl _ _) (Nat.le_refl _) _ s, _, _, _, Lib.bytesWorld_at_new w _ s, fun j hj => ?_, ?_⟩
 ·have h := Lib.bytesWorld_cell w 5 s j hj
  rw [cell_of_row _ _ _ _ _ _ (Lib.bytesWorld_at_new w _ s)] at h
  rw [h]
  have hb : ident_Lower.at s 0 j = bt s j := by simp [ident_Lower.at]
  rw [hb, ← bt_at s (j : Int) (by simpa using hj)]
  simp [List.getD_eq_getElem?_getD, hj]
  rfl
 ·simp [Lib.bytesCells]
theorem ident_Lower.Holds.drewN {w w1 : World} {g : Nat} {s : ByteArray} {i : Nat} (h : ident_Lower.Holds w w1 g s i) (n : Nat) : ident_Lower.Holds w (w1.drewN n) g s i :=
 ⟨h.lo, h.b.trans ⟨rfl, rfl, rfl, Nat.le_refl _, fun _ _ => rfl⟩, h.o⟩
theorem ident_Lower.Holds.skip {w w1 : World} {g : Nat} {s : ByteArray} {i : Nat} (h : ident_Lower.Holds w w1 g s i) (he : ident_Lower.low (bt s (i : Nat)) = bt s (i : Nat)) : ident_Lower.Holds w w1 g s (i + 1) := by
 obtain ⟨cs, lo, hi, h1, h2, h3⟩ := h.o
 refine ⟨h.lo, h.b, cs, lo, hi, h1, fun j hj => ?_, h3⟩
 rw [h2 j hj]
 congr 2
 unfold ident_Lower.at
 rcases Nat.lt_trichotomy j i with h4 | rfl | h4
 ·rw [if_pos h4, if_pos (by omega)]
 ·rw [if_neg (by omega), if_pos (by omega), he]
 ·rw [if_neg (by omega), if_neg (by omega)]
theorem ident_Lower.Holds.set {w w1 : World} {g : Nat} {s : ByteArray} {i : Nat} (h : ident_Lower.Holds w w1 g s i) (v : Int) (hv : v = ident_Lower.low (bt s (i : Nat))) : ident_Lower.Holds w (w1.setCell ⟨g, i, none⟩ (.int .u8 v)) g s (i + 1) := by
 obtain ⟨cs, lo, hi, h1, h2, h3⟩ := h.o
 refine ⟨h.lo, below_set h.b h.lo, cs.setIfInBounds i (.int .u8 v), lo, hi, ?_, fun j hj => ?_, h3⟩
 ·simp [World.setCell, Array.getElem?_modify, h1]
 ·unfold ident_Lower.at
  rcases Nat.lt_trichotomy j i with h4 | rfl | h4
  ·rw [Array.getElem?_setIfInBounds_ne (by omega), h2 j hj, if_pos (by omega)]
   unfold ident_Lower.at
   rw [if_pos h4]
  ·have hs : j < cs.size := (Array.getElem?_eq_some_iff.1 (h2 j hj)).1
   rw [Array.getElem?_setIfInBounds_self_of_lt hs, if_pos (by omega), hv]
  ·rw [Array.getElem?_setIfInBounds_ne (by omega), h2 j hj, if_neg (by omega)]
   unfold ident_Lower.at
   rw [if_neg (by omega)]
theorem ident_Lower.Holds.read {w w1 : World} {g : Nat} {s : ByteArray} (h : ident_Lower.Holds w w1 g s s.size) (hs : s.size ≤ 140737488351232) (c : Nat) :
  (convert 96 9 (.slice (some ⟨g, 0, none⟩) s.size c)).run Try.prog w1 = .ok (.string (strOfNums ((List.range s.size).map fun j => ident_Lower.low (bt s (j : Nat))))) w1 := by
 refine string_of_reads Try.underlying96 Try.underlying5 Try.underlying9 ⟨by simp, by omega, fun _ => ⟨_, rfl, fun j hj => ?_⟩⟩
 rw [add_plain, h.cell hj]
 simp [ident_Lower.at, hj, List.getD_eq_getElem?_getD]
theorem ident_Lower.next {i n : Nat} (h1 : i < n) (hs : n ≤ 140737488351232) : wrap64 ((i : Int) + 1) = ((i + 1 : Nat) : Int) := by
 unfold wrap64
 omega
theorem ident_Lower.less {i n : Nat} (h1 : i < n) (hw : wrap64 ((i : Int) + 1) = ((i + 1 : Nat) : Int)) : n - (intOf (.int .i64 (wrap64 ((i : Int) + 1)))).toNat < n - (intOf (.int .i64 (i : Int))).toNat := by
 rw [hw]
 show n - (((i + 1 : Nat) : Int)).toNat < n - ((i : Int)).toNat
 rw [Int.toNat_natCast, Int.toNat_natCast]
 clear hw
 omega

set_option maxHeartbeats 400000 in
set_option maxRecDepth 100000 in
theorem ident_Lower.calls (s : ByteArray) (r : ByteArray) (w : World) (h : ident_Lower.f s = some r) :
  Calls Try.prog 46 #[.string s] w fun e w' => e = .returned (.string r) ∧ Below w.heap.size w w' := by
 unfold ident_Lower.f at h
 by_cases hs : s.size ≤ 140737488351232
 ·rw [if_pos hs] at h
  have HR := Aside0.mk (Option.some.inj h)
  have HS := Aside0.mk hs
  clear h hs
  have kb := fun W => print_bytes (P := Try.prog) 9 96 5 Try.underlying9 Try.underlying96 Try.underlying5 s W
  go_enter Try.func46, Try.ntmps46
  go_wp2
  go_loopw [9] (fun v9 wr => ∃ (i : Nat), i ≤ s.size ∧ v9 = .int .i64 i ∧ Aside0 (ident_Lower.Holds w wr w.heap.size s i)) (fun v9 _ => s.size - (intOf v9).toNat)
  case atStart => exact ⟨0, Nat.zero_le _, rfl, ⟨ident_Lower.Holds.start w s⟩⟩
  case round =>
   clear kb
   obtain ⟨i, hi, rfl, HH⟩ := hrel
   by_cases hlt : i < s.size
   ·have q0 : (0 ≤ (i : Int)) = True := eq_true (by omega)
    have q1 : ((i : Int) < (s.size : Int)) = True := eq_true (by omega)
    have q2 : decide ((i : Int) < (s.size : Int)) = true := decide_eq_true (by omega)
    have q3 : decide (i < s.size) = true := decide_eq_true hlt
    have q4 : (i < s.size) = True := eq_true hlt
    have hx : wr.cell? ⟨w.heap.size, i, none⟩ = some (.int .u8 (bt s (i : Nat))) := by
     rw [HH.out.cell hlt]
     simp [ident_Lower.at]
    have hz := HH.out.froz hlt
    have H1 := Aside0.mk hlt
    have HW := Aside0.mk (ident_Lower.next hlt HS.out)
    have hA := add_plain w.heap.size i
    clear hlt hi
    by_cases c1 : bt s (i : Nat) ≥ 65
    ·have c1b : decide (65 ≤ bt s (i : Nat)) = true := decide_eq_true c1
     by_cases c2 : bt s (i : Nat) ≤ 90
     ·have c2b : decide (bt s (i : Nat) ≤ 90) = true := decide_eq_true c2
      have HV : Aside0 ((bt s (i : Nat) + 32) % 256 = ident_Lower.low (bt s (i : Nat))) := ⟨by unfold ident_Lower.low; rw [if_pos c1, if_pos c2]; omega⟩
      clear c1 c2
      go_wp2
      go_roundw
      case rel => exact ⟨i + 1, H1.out, by rw [HW.out], ⟨HH.out.set _ HV.out⟩⟩
      case measure => exact ident_Lower.less H1.out HW.out
     ·have c2b : decide (bt s (i : Nat) ≤ 90) = false := decide_eq_false c2
      have HV : Aside0 (ident_Lower.low (bt s (i : Nat)) = bt s (i : Nat)) := ⟨by unfold ident_Lower.low; rw [if_pos c1, if_neg c2]⟩
      clear c1 c2
      go_wp2
      go_roundw
      case rel => exact ⟨i + 1, H1.out, by rw [HW.out], ⟨HH.out.skip HV.out⟩⟩
      case measure => exact ident_Lower.less H1.out HW.out
    ·have c1b : decide (65 ≤ bt s (i : Nat)) = false := decide_eq_false c1
     have HV : Aside0 (ident_Lower.low (bt s (i : Nat)) = bt s (i : Nat)) := ⟨by unfold ident_Lower.low; rw [if_neg c1]⟩
     clear c1
     go_wp2
     go_roundw
     case rel => exact ⟨i + 1, H1.out, by rw [HW.out], ⟨HH.out.skip HV.out⟩⟩
     case measure => exact ident_Lower.less H1.out HW.out
   ·have hie : i = s.size := by omega
    subst hie
    have q2 : decide ((s.size : Int) < (s.size : Int)) = false := decide_eq_false (by omega)
    have q3 : decide (s.size < s.size) = false := decide_eq_false (by omega)
    have hk := HH.out.read HS.out (grownCap w s.size 0 5)
    clear hlt
    rw [HR.out] at hk
    go_wp2
    go_ret
    exact ⟨rfl, HH.out.b⟩
 ·rw [if_neg hs] at h
  cases h

/-! ### strings_IndexByte: function 78 -/
def strings_IndexByte.f (a0 : ByteArray) (a1 : Int) : Option (Int) := some (Lib.indexByte a0.data.toList a1.toNat.toUInt8)
theorem strings_IndexByte.calls (a0 : ByteArray) (a1 : Int) (r : Int) (w : World) (h : strings_IndexByte.f a0 a1 = some r) :
  Calls Try.prog 78 #[.string a0, .int .u8 a1] w fun e w' => e = .returned (.int .i64 r) ∧ Drawn0 w w' := by
 refine (Try.strings_IndexByte a0 a1 w).mono ?_
 rintro e w' ⟨rfl, rfl⟩
 exact ⟨by rw [Option.some.inj h], Drawn0.refl _⟩

/-! ### ident_Name: function 50 -/
def ident_Name.f (a0 : ByteArray) : Option (Bool) := if a0.toList = ([] : List UInt8) then (some false) else (if (a0.size : Int) ≤ 64 then ((strings_IndexByte.f a0 0).bind fun t102 => (some (decide (t102 < 0)))) else (some false))
set_option maxHeartbeats 8000000 in
set_option maxRecDepth 100000 in
theorem ident_Name.calls (a0 : ByteArray) (r : Bool) (w : World) (h : ident_Name.f a0 = some r) :
  Calls Try.prog 50 #[.string a0] w fun e w' => e = .returned (.bool r) ∧ Drawn0 w w' := by
 have H : (if a0.toList = ([] : List UInt8) then (some false) else (if (a0.size : Int) ≤ 64 then ((strings_IndexByte.f a0 0).bind fun t102 => (some (decide (t102 < 0)))) else (some false))) = some r := h
 clear h
 by_cases c2 : a0.toList = ([] : List UInt8)
 ·rw [if_pos c2] at H
  have c2b0 : (a0.toList == ([] : List UInt8)) = true := beq_iff_eq.mpr c2
  have c2b1 : (a0.toList != ([] : List UInt8)) = false := bne_eq_false_iff_eq.mpr c2
  clear c2
  obtain rfl := Option.some.inj H
  go_enter Try.func50, Try.ntmps50
  go_wp2
  go_ret
  exact ⟨by first | rfl | (simp; done) | (simp [*]; done), by repeat (first | exact Drawn0.refl _ | apply Drawn0.step)⟩
 ·rw [if_neg c2] at H
  have c2b0 : (a0.toList == ([] : List UInt8)) = false := beq_eq_false_iff_ne.mpr c2
  have c2b1 : (a0.toList != ([] : List UInt8)) = true := bne_iff_ne.mpr c2
  by_cases c3 : (a0.size : Int) ≤ 64
  ·rw [if_pos c3] at H
   have c3b0 : decide ((a0.size : Int) ≤ 64) = true := decide_eq_true c3
   have c3b1 : decide (a0.size ≤ 64) = true := decide_eq_true (by omega)
   clear c3
   replace H := Option.bind_eq_some_iff.mp H
   obtain ⟨t102, A40, H⟩ := H
   try dsimp only at H
   have A4 := Aside0.mk A40
   clear A40
   obtain rfl := Option.some.inj H
   go_enter Try.func50, Try.ntmps50
   go_wp2_with (first | (go_at_call 78; (with_reducible refine (strings_IndexByte.calls a0 0 t102 _ A4.out).mono ?_); rintro e w' ⟨rfl, ⟨nd, rfl⟩⟩))
   go_ret
   exact ⟨by first | rfl | (simp; done) | (simp [*]; done), by repeat (first | exact Drawn0.refl _ | apply Drawn0.step)⟩
  ·rw [if_neg c3] at H
   have c3b0 : decide ((a0.size : Int) ≤ 64) = false := decide_eq_false c3
   have c3b1 : decide (a0.size ≤ 64) = false := decide_eq_false (by omega)
   clear c3
   obtain rfl := Option.some.inj H
   go_enter Try.func50, Try.ntmps50
   go_wp2
   go_ret
   exact ⟨by first | rfl | (simp; done) | (simp [*]; done), by repeat (first | exact Drawn0.refl _ | apply Drawn0.step)⟩

end Go.Proofs.Ytdjfdhnmbimkoaa.PRs
