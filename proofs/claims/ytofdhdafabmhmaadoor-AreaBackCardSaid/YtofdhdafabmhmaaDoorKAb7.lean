/- AreaBackCardSaid, part 8 of 13: contracts of the program's functions, the words that they use, and the plain laws on what they compute. Conditions: none beyond what the statements say. -/
import Derived.Test.YtofdhdafabmhmaaDoorKAb1
import Derived.Test.YtofdhdafabmhmaaDoorKAb2
import Derived.Test.YtofdhdafabmhmaaDoorKAb6
import Derived.Ground.NamesProg
import Derived.Shelf.Lay
import Derived.Shelf.Strings.SlTrimAscii
import Derived.Shelf.Strings.OnBuilder
set_option linter.unusedVariables false
set_option linter.unusedSimpArgs false
section
namespace Go.Proofs.YtofdhdafabmhmaaDoor.PAr
open Go.RowKit Go.Proofs.YtofdhdafabmhmaaDoorW.PrintWords Go.Proofs.YtofdhdafabmhmaaDoorW.PrintLast Go.Proofs.YtofdhdafabmhmaaDoorW.PrintMore
attribute [local go_sem] max2_int min2_int max_two min_two max_three min_three max_four min_four
open Go.Proofs.YtofdhdafabmhmaaDoor.Opn Go.Proofs.YtofdhdafabmhmaaDoor.Giv

/-! ### parterrelaw08_words: function 16 -/
def parterrelaw08_words.f (k : Nat) (a0 : ByteArray) : Option ((List (S67))) := if (a0.size : Int) ≤ 140737488355328 then ((token_Tokens.f k ((bytesOf a0 : List Int))).bind fun bt183 => (some bt183.1)) else (none)
theorem parterrelaw08_words.mono : ∀ a0 k, LeO (parterrelaw08_words.f k a0) (parterrelaw08_words.f (k + 1) a0) := by
 intro a0 k
 unfold parterrelaw08_words.f
 repeat' first
   | (with_reducible exact token_Tokens.mono _ _)
   | (with_reducible exact LeO.refl _)
   | (with_reducible exact LeO.none _)
   | (with_reducible refine LeO.ite ?_ ?_)
   | (with_reducible refine LeO.bind ?_ (fun _ => ?_))
set_option maxHeartbeats 8000000 in
set_option maxRecDepth 100000 in
theorem parterrelaw08_words.calls (k : Nat) (a0 : ByteArray) (r : List (S67)) (w : World) (h : parterrelaw08_words.f k a0 = some r) :
  Calls Tryd.prog 16 #[.string a0] w fun e w' => ∃ v0_ : Value, e = .returned (v0_) ∧ Kd.R k67 67 w' w.heap.size (fun _ => True) v0_ r ∧ Below w.heap.size w w' := by
 have HB := Aside0.mk (Below.refl w.heap.size w)
 have H : (if (a0.size : Int) ≤ 140737488355328 then ((token_Tokens.f k ((bytesOf a0 : List Int))).bind fun bt183 => (some bt183.1)) else (none)) = some r := h
 clear h
 by_cases c2 : (a0.size : Int) ≤ 140737488355328
 ·rw [if_pos c2] at H
  have c2b0 := eq_true c2
  have c2b1 : decide ((a0.size : Int) ≤ 140737488355328) = true := decide_eq_true c2
  clear c2
  obtain ⟨y180, hy180⟩ : ∃ y_ : List Int, y_ = ((bytesOf a0 : List Int)) := ⟨_, rfl⟩
  replace H : ((token_Tokens.f k y180).bind fun bt183 => (some bt183.1)) = some r := by first | (rw [hy180]; with_reducible exact H) | (have H2_ := (Option.bind_some _ _).symm.trans H; rw [hy180]; with_reducible exact H2_) | (have H2_ := (Option.bind_some _ _).symm.trans H; with_reducible exact H2_) | with_reducible exact H | (rw [hy180]; exact H) | exact H
  have Ny180 := Aside0.mk hy180
  clear hy180
  replace H := Option.bind_eq_some_iff.mp H
  obtain ⟨⟨t183, t184, t185⟩, A30, H⟩ := H
  try dsimp only at H
  have A3 := Aside0.mk A30
  clear A30
  obtain rfl := Option.some.inj H
  go_enter Tryd.func16, Tryd.ntmps16
  go_wp2_with (first | ((with_reducible refine gate_dst (N := 8) rfl ?_); refine Kd.Z_bytes _ 5 9 63 ?hg (N := 8) ?hd (x := .tmp 7) a0 ?ho ?hx Tryd.underlying9 Tryd.underlying63 Tryd.underlying5 ?hm (Below.refl _ _) (Nat.le_refl _) ?_; (case hd => rfl); (case hg => rfl); (case ho => rfl); (case hx => first | rfl | (go_simp; done)); (case hm => have h_ : (a0.size : Int) ≤ 140737488355328 := of_decide_eq_true (by first | (with_reducible assumption) | assumption); omega); intro v181 w4 ho5 hb hg_ hnew_; clear hg_ hnew_; (first | rw [← Ny180.out] at ho5 | (simp only [Int.reduceToNat] at ho5; rw [← Ny180.out] at ho5)); have n0_ := Aside0.mk (Kd.Z_lower ho5 (below_size bel_)); have n1_ := Aside0.mk (below_step bel_ hb); clear HB; have HO182 := n0_; have HB := n1_; clear n0_ n1_; clear hb ho5; obtain ⟨Ao6, co6, eo6⟩ := Kd.Z_slice HO182.out; subst eo6) | ((with_reducible refine gate_callee (f := 36) rfl ?_); refine goesL_ (some 9) rfl rfl Tryd.func36 (by kernel_rfl) rfl #[.slice Ao6 y180.length co6] rfl goa_ ?_; (with_reducible refine (token_Tokens.calls k _ _ y180 t183 t184 t185 _ ?side1 ?side2 A3.out).mono ?_); (case side1 => repeat (first | exact (Kd.Z_reads' HO182.out).2.2 | (with_reducible refine Kd.C_alloc ?_ _) | (with_reducible refine Kd.C_drewN ?_ _) | (with_reducible refine Kd.C_drew ?_))); (case side2 => exact (Kd.Z_reads' HO182.out).2.1); rintro e w7 ⟨v186, rfl, ho0, hb⟩; refine ⟨_, rfl, ?_⟩; have n0_ := Aside0.mk (Kd.Z_below (by (with_reducible repeat (first | apply Kd.Z_alloc | apply Kd.Z_drewN | apply Kd.Z_drew)); exact HO182.out) hb); have n1_ := Aside0.mk (Kd.R_lower ho0 (below_size bel_)); have n2_ := Aside0.mk (below_step bel_ hb); clear HO182; clear HB; have HO182 := n0_; have HO187 := n1_; have HB := n2_; clear n0_ n1_ n2_; (try clear hb); (try clear hb2); (try clear hk); (try clear hi); (try clear ho0)))
  go_ret
  exact ⟨_, rsl_, by (with_reducible repeat (first | apply Kd.R_alloc | apply Kd.R_drewN | apply Kd.R_drew)); exact HO187.out, bel_⟩
 ·rw [if_neg c2] at H
  exact absurd H (by simp)

/-! ### ident_Lower: function 71 -/
def ident_Lower.low (c : Int) : Int := if c ≥ 65 then (if c ≤ 90 then c + 32 else c) else c
def ident_Lower.at (s : ByteArray) (i j : Nat) : Int := if j < i then ident_Lower.low (bt s j) else bt s j
def ident_Lower.f (s : ByteArray) : Option ByteArray := if s.size ≤ 140737488351232 then some (strOfNums ((List.range s.size).map fun j => ident_Lower.low (bt s (j : Nat)))) else none
structure ident_Lower.Holds (w w1 : World) (g : Nat) (s : ByteArray) (i : Nat) : Prop where
 lo : w.heap.size ≤ g
 b : Below w.heap.size w w1
 o : ∃ cs lo hi, w1.heap[g]? = some (.cells cs 5 (lo, hi)) ∧ (∀ j, j < s.size → cs[j]? = some (.int .u8 (ident_Lower.at s i j))) ∧ s.size ≤ lo
theorem ident_Lower.Holds.cell {w w1 : World} {g : Nat} {s : ByteArray} {i : Nat} (h : ident_Lower.Holds w w1 g s i) {j : Nat} (hj : j < s.size) : w1.cell? ⟨g, j, none⟩ = some (.int .u8 (ident_Lower.at s i j)) := by
 obtain ⟨cs, lo, hi, h1, h2, h3⟩ := h.o
 rw [cell_of_row _ _ _ _ _ _ h1]
 exact h2 j hj
theorem ident_Lower.Holds.froz {w w1 : World} {g : Nat} {s : ByteArray} {i : Nat} (h : ident_Lower.Holds w w1 g s i) {j : Nat} (hj : j < s.size) : w1.frozen? ⟨g, j, none⟩ = false := by
 obtain ⟨cs, lo, hi, h1, h2, h3⟩ := h.o
 have : ¬ lo ≤ j := by omega
 simp [World.frozen?, h1, this]
theorem ident_Lower.Holds.start (w : World) (s : ByteArray) : ident_Lower.Holds w (Lib.bytesWorld w 5 s) w.heap.size s 0 := by
 refine ⟨Nat.le_refl _, bytes_below (Below.refl _ _) (Nat.le_refl _) _ s, _, _, _, Lib.bytesWorld_at_new w _ s, fun j hj => ?_, ?_⟩
 ·have h := Lib.bytesWorld_cell w 5 s j hj
  rw [cell_of_row _ _ _ _ _ _ (Lib.bytesWorld_at_new w _ s)] at h
  rw [h]
  have hb : ident_Lower.at s 0 j = bt s j := by simp [ident_Lower.at]
  rw [hb, ← bt_at s (j : Int) (by simpa using hj)]
  simp [List.getD_eq_getElem?_getD, hj]
  rfl
 ·simp [Lib.bytesCells]
theorem ident_Lower.Holds.drewN {w w1 : World} {g : Nat} {s : ByteArray} {i : Nat} (h : ident_Lower.Holds w w1 g s i) (n : Nat) : ident_Lower.Holds w (w1.drewN n) g s i :=
 ⟨h.lo, h.b.trans ⟨rfl, rfl, rfl, Nat.le_refl _, fun _ _ => rfl⟩, h.o⟩
theorem ident_Lower.Holds.skip {w w1 : World} {g : Nat} {s : ByteArray} {i : Nat} (h : ident_Lower.Holds w w1 g s i) (he : ident_Lower.low (bt s (i : Nat)) = bt s (i : Nat)) : ident_Lower.Holds w w1 g s (i + 1) := by
 obtain ⟨cs, lo, hi, h1, h2, h3⟩ := h.o
 refine ⟨h.lo, h.b, cs, lo, hi, h1, fun j hj => ?_, h3⟩
 rw [h2 j hj]
 congr 2
 unfold ident_Lower.at
 rcases Nat.lt_trichotomy j i with h4 | rfl | h4
 ·rw [if_pos h4, if_pos (by omega)]
 ·rw [if_neg (by omega), if_pos (by omega), he]
 ·rw [if_neg (by omega), if_neg (by omega)]
theorem ident_Lower.Holds.set {w w1 : World} {g : Nat} {s : ByteArray} {i : Nat} (h : ident_Lower.Holds w w1 g s i) (v : Int) (hv : v = ident_Lower.low (bt s (i : Nat))) : ident_Lower.Holds w (w1.setCell ⟨g, i, none⟩ (.int .u8 v)) g s (i + 1) := by
 obtain ⟨cs, lo, hi, h1, h2, h3⟩ := h.o
 refine ⟨h.lo, below_set h.b h.lo, cs.setIfInBounds i (.int .u8 v), lo, hi, ?_, fun j hj => ?_, h3⟩
 ·simp [World.setCell, Array.getElem?_modify, h1]
 ·unfold ident_Lower.at
  rcases Nat.lt_trichotomy j i with h4 | rfl | h4
  ·rw [Array.getElem?_setIfInBounds_ne (by omega), h2 j hj, if_pos (by omega)]
   unfold ident_Lower.at
   rw [if_pos h4]
  ·have hs : j < cs.size := (Array.getElem?_eq_some_iff.1 (h2 j hj)).1
   rw [Array.getElem?_setIfInBounds_self_of_lt hs, if_pos (by omega), hv]
  ·rw [Array.getElem?_setIfInBounds_ne (by omega), h2 j hj, if_neg (by omega)]
   unfold ident_Lower.at
   rw [if_neg (by omega)]
theorem ident_Lower.Holds.read {w w1 : World} {g : Nat} {s : ByteArray} (h : ident_Lower.Holds w w1 g s s.size) (hs : s.size ≤ 140737488351232) (c : Nat) :
  (convert 63 9 (.slice (some ⟨g, 0, none⟩) s.size c)).run Tryd.prog w1 = .ok (.string (strOfNums ((List.range s.size).map fun j => ident_Lower.low (bt s (j : Nat))))) w1 := by
 refine string_of_reads Tryd.underlying63 Tryd.underlying5 Tryd.underlying9 ⟨by simp, by omega, fun _ => ⟨_, rfl, fun j hj => ?_⟩⟩
 rw [add_plain, h.cell hj]
 simp [ident_Lower.at, hj, List.getD_eq_getElem?_getD]
theorem ident_Lower.next {i n : Nat} (h1 : i < n) (hs : n ≤ 140737488351232) : wrap64 ((i : Int) + 1) = ((i + 1 : Nat) : Int) := by
 unfold wrap64
 omega
theorem ident_Lower.less {i n : Nat} (h1 : i < n) (hw : wrap64 ((i : Int) + 1) = ((i + 1 : Nat) : Int)) : n - (intOf (.int .i64 (wrap64 ((i : Int) + 1)))).toNat < n - (intOf (.int .i64 (i : Int))).toNat := by
 rw [hw]
 show n - (((i + 1 : Nat) : Int)).toNat < n - ((i : Int)).toNat
 rw [Int.toNat_natCast, Int.toNat_natCast]
 clear hw
 omega

set_option maxHeartbeats 400000 in
set_option maxRecDepth 100000 in
theorem ident_Lower.calls (s : ByteArray) (r : ByteArray) (w : World) (h : ident_Lower.f s = some r) :
  Calls Tryd.prog 71 #[.string s] w fun e w' => e = .returned (.string r) ∧ Below w.heap.size w w' := by
 unfold ident_Lower.f at h
 by_cases hs : s.size ≤ 140737488351232
 ·rw [if_pos hs] at h
  have HR := Aside0.mk (Option.some.inj h)
  have HS := Aside0.mk hs
  clear h hs
  have kb := fun W => print_bytes (P := Tryd.prog) 9 63 5 Tryd.underlying9 Tryd.underlying63 Tryd.underlying5 s W
  go_enter Tryd.func71, Tryd.ntmps71
  go_wp2
  go_loopw [9] (fun v9 wr => ∃ (i : Nat), i ≤ s.size ∧ v9 = .int .i64 i ∧ Aside0 (ident_Lower.Holds w wr w.heap.size s i)) (fun v9 _ => s.size - (intOf v9).toNat)
  case atStart => exact ⟨0, Nat.zero_le _, rfl, ⟨ident_Lower.Holds.start w s⟩⟩
  case round =>
   clear kb
   obtain ⟨i, hi, rfl, HH⟩ := hrel
   by_cases hlt : i < s.size
   ·have q0 : (0 ≤ (i : Int)) = True := eq_true (by omega)
    have q1 : ((i : Int) < (s.size : Int)) = True := eq_true (by omega)
    have q2 : decide ((i : Int) < (s.size : Int)) = true := decide_eq_true (by omega)
    have q3 : decide (i < s.size) = true := decide_eq_true hlt
    have q4 : (i < s.size) = True := eq_true hlt
    have hx : wr.cell? ⟨w.heap.size, i, none⟩ = some (.int .u8 (bt s (i : Nat))) := by
     rw [HH.out.cell hlt]
     simp [ident_Lower.at]
    have hz := HH.out.froz hlt
    have H1 := Aside0.mk hlt
    have HW := Aside0.mk (ident_Lower.next hlt HS.out)
    have hA := add_plain w.heap.size i
    clear hlt hi
    by_cases c1 : bt s (i : Nat) ≥ 65
    ·have c1b : decide (65 ≤ bt s (i : Nat)) = true := decide_eq_true c1
     by_cases c2 : bt s (i : Nat) ≤ 90
     ·have c2b : decide (bt s (i : Nat) ≤ 90) = true := decide_eq_true c2
      have HV : Aside0 ((bt s (i : Nat) + 32) % 256 = ident_Lower.low (bt s (i : Nat))) := ⟨by unfold ident_Lower.low; rw [if_pos c1, if_pos c2]; omega⟩
      clear c1 c2
      go_wp2
      go_roundw
      case rel => exact ⟨i + 1, H1.out, by rw [HW.out], ⟨HH.out.set _ HV.out⟩⟩
      case measure => exact ident_Lower.less H1.out HW.out
     ·have c2b : decide (bt s (i : Nat) ≤ 90) = false := decide_eq_false c2
      have HV : Aside0 (ident_Lower.low (bt s (i : Nat)) = bt s (i : Nat)) := ⟨by unfold ident_Lower.low; rw [if_pos c1, if_neg c2]⟩
      clear c1 c2
      go_wp2
      go_roundw
      case rel => exact ⟨i + 1, H1.out, by rw [HW.out], ⟨HH.out.skip HV.out⟩⟩
      case measure => exact ident_Lower.less H1.out HW.out
    ·have c1b : decide (65 ≤ bt s (i : Nat)) = false := decide_eq_false c1
     have HV : Aside0 (ident_Lower.low (bt s (i : Nat)) = bt s (i : Nat)) := ⟨by unfold ident_Lower.low; rw [if_neg c1]⟩
     clear c1
     go_wp2
     go_roundw
     case rel => exact ⟨i + 1, H1.out, by rw [HW.out], ⟨HH.out.skip HV.out⟩⟩
     case measure => exact ident_Lower.less H1.out HW.out
   ·have hie : i = s.size := by omega
    subst hie
    have q2 : decide ((s.size : Int) < (s.size : Int)) = false := decide_eq_false (by omega)
    have q3 : decide (s.size < s.size) = false := decide_eq_false (by omega)
    have hk := HH.out.read HS.out (grownCap w s.size 0 5)
    clear hlt
    rw [HR.out] at hk
    go_wp2
    go_ret
    exact ⟨rfl, HH.out.b⟩
 ·rw [if_neg hs] at h
  cases h

/-! ### ident_Is: function 47 -/
def ident_Is.f (a0 : ByteArray) (a1 : ByteArray) : Option (Bool) := (ident_Lower.f a0).bind fun t188 => ((ident_Lower.f a1).bind fun t189 => (some (t188.toList == t189.toList)))
set_option maxHeartbeats 8000000 in
set_option maxRecDepth 100000 in
theorem ident_Is.calls (a0 : ByteArray) (a1 : ByteArray) (r : Bool) (w : World) (h : ident_Is.f a0 a1 = some r) :
  Calls Tryd.prog 47 #[.string a0, .string a1] w fun e w' => e = .returned (.bool r) ∧ Below w.heap.size w w' := by
 have HB := Aside0.mk (Below.refl w.heap.size w)
 have H : ((ident_Lower.f a0).bind fun t188 => ((ident_Lower.f a1).bind fun t189 => (some (t188.toList == t189.toList)))) = some r := h
 clear h
 replace H := Option.bind_eq_some_iff.mp H
 obtain ⟨t188, A30, H⟩ := H
 try dsimp only at H
 have A3 := Aside0.mk A30
 clear A30
 replace H := Option.bind_eq_some_iff.mp H
 obtain ⟨t189, A40, H⟩ := H
 try dsimp only at H
 have A4 := Aside0.mk A40
 clear A40
 obtain rfl := Option.some.inj H
 go_enter Tryd.func47, Tryd.ntmps47
 go_wp2_with (first | ((with_reducible refine gate_callee (f := 71) rfl ?_); refine goesL_ (some 6) rfl rfl Tryd.func71 (by kernel_rfl) rfl #[.string a0] rfl goa_ ?_; (with_reducible refine (ident_Lower.calls a0 t188 _ A3.out).mono ?_); rintro e w5 ⟨rfl, hb⟩; refine ⟨_, rfl, ?_⟩; have n0_ := Aside0.mk (below_step bel_ hb); clear HB; have HB := n0_; clear n0_; clear hb) | ((with_reducible refine gate_callee (f := 71) rfl ?_); refine goesL_ (some 8) rfl rfl Tryd.func71 (by kernel_rfl) rfl #[.string a1] rfl goa_ ?_; (with_reducible refine (ident_Lower.calls a1 t189 _ A4.out).mono ?_); rintro e w6 ⟨rfl, hb⟩; refine ⟨_, rfl, ?_⟩; have n0_ := Aside0.mk (below_step bel_ hb); clear HB; have HB := n0_; clear n0_; clear hb))
 go_ret
 exact ⟨rsl_, bel_⟩

/-! ### value_word: function 69 -/
def value_word.f (l0 : List (S67)) (a1 : Int) : Option (Int × Int × ByteArray × ByteArray) := if a1 < 0 then (some (8, 0, (⟨#[]⟩ : ByteArray), (⟨#[]⟩ : ByteArray))) else (if a1 ≥ (l0.length : Int) then (some (8, 0, (⟨#[]⟩ : ByteArray), (⟨#[]⟩ : ByteArray))) else (if 0 ≤ a1 then (if a1 < (l0.length : Int) then (some ((rd_T67 l0 a1).f0, (rd_T67 l0 a1).f1, (rd_T67 l0 a1).f2, (rd_T67 l0 a1).f3)) else (none)) else (none)))
set_option maxHeartbeats 8000000 in
set_option maxRecDepth 100000 in
theorem value_word.calls (A0 : Option Addr) (c0 : Nat) (l0 : List (S67)) (a1 : Int) (r1 : Int) (r2 : Int) (r3 : ByteArray) (r4 : ByteArray) (w : World) (hr0 : Kd.C k67 w A0 l0.length l0) (hc0 : l0.length ≤ c0) (h : value_word.f l0 a1 = some (r1, r2, r3, r4)) :
  Calls Tryd.prog 69 #[.slice A0 l0.length c0, .int .i64 a1] w fun e w' => e = .returned (.agg #[.int .i64 r1, .int .i64 r2, .string r3, .string r4]) ∧ Below w.heap.size w w' := by
 have hu67 := Tryd.underlying67
 have HR0 := Aside0.mk hr0
 have HC0 := Aside0.mk hc0
 clear hr0 hc0
 have HB := Aside0.mk (Below.refl w.heap.size w)
 have H : (if a1 < 0 then (some (8, 0, (⟨#[]⟩ : ByteArray), (⟨#[]⟩ : ByteArray))) else (if a1 ≥ (l0.length : Int) then (some (8, 0, (⟨#[]⟩ : ByteArray), (⟨#[]⟩ : ByteArray))) else (if 0 ≤ a1 then (if a1 < (l0.length : Int) then (some ((rd_T67 l0 a1).f0, (rd_T67 l0 a1).f1, (rd_T67 l0 a1).f2, (rd_T67 l0 a1).f3)) else (none)) else (none)))) = some (r1, r2, r3, r4) := h
 clear h
 by_cases c3 : a1 < 0
 ·rw [if_pos c3] at H
  have c3b0 : decide (a1 < 0) = true := decide_eq_true c3
  clear c3
  simp only [Option.some.injEq, Prod.mk.injEq] at H
  obtain ⟨rfl, rfl, rfl, rfl⟩ := H
  go_enter Tryd.func69, Tryd.ntmps69
  go_wp2_with (first | ((with_reducible refine gate_dst (N := 4) rfl ?_); (try (refine gate_guard (by rfl) ?_; dsimp only)); refine box_event ?hg (N := 4) ?hd (cs := #[.int .i64 0, .int .i64 0, .string (⟨#[]⟩ : ByteArray), .string (⟨#[]⟩ : ByteArray)]) (t := 67) ?hr ?_; (case hd => rfl); (case hg => rfl); (case hr => first | (go_simp; done) | (go_simp; rfl)); intro gb190 hg w4 hbox hb; have n0_ := Aside0.mk (below_step bel_ hb); have n1_ := Aside0.mk (hbox); have n2_ := Aside0.mk ((bsz_ hg : w.heap.size ≤ gb190)); have n3_ := Aside0.mk ((bsz_ hg : w.heap.size ≤ gb190)); clear HB; have HB := n0_; have BK190 := n1_; have GW190 := n2_; have GE190 := n3_; clear n0_ n1_ n2_ n3_; clear hb hbox hg; have hcz5_0 : w4.cell? ⟨gb190, 0, none⟩ = some (.int .i64 0) := (blk_cell BK190.out 0).trans rfl; have hcz5_1 : w4.cell? ⟨gb190, 1, none⟩ = some (.int .i64 0) := (blk_cell BK190.out 1).trans rfl; have hcz5_2 : w4.cell? ⟨gb190, 2, none⟩ = some (.string (⟨#[]⟩ : ByteArray)) := (blk_cell BK190.out 2).trans rfl; have hcz5_3 : w4.cell? ⟨gb190, 3, none⟩ = some (.string (⟨#[]⟩ : ByteArray)) := (blk_cell BK190.out 3).trans rfl; have hfz5_0 := blk_frozen BK190.out 0; have hfz5_1 := blk_frozen BK190.out 1; have hfz5_2 := blk_frozen BK190.out 2; have hfz5_3 := blk_frozen BK190.out 3))
  refine bodyPost_ret (results_cell_row rfl _ _ gb190 67 #[.int .i64 8, .int .i64 0, .string (⟨#[]⟩ : ByteArray), .string (⟨#[]⟩ : ByteArray)] (0, 0) _ rfl (by (with_reducible repeat (first | refine blk_drewN ?_ _ | refine blk_drew ?_ | refine blk_alloc ?_ _)); refine blk_put (cs := #[.int .i64 8, .int .i64 0, .string (⟨#[]⟩ : ByteArray), .string (⟨#[]⟩ : ByteArray)]) ?_ 3 _ rfl; (with_reducible repeat (first | refine blk_drewN ?_ _ | refine blk_drew ?_ | refine blk_alloc ?_ _)); refine blk_put (cs := #[.int .i64 8, .int .i64 0, .string (⟨#[]⟩ : ByteArray), .string (⟨#[]⟩ : ByteArray)]) ?_ 2 _ rfl; (with_reducible repeat (first | refine blk_drewN ?_ _ | refine blk_drew ?_ | refine blk_alloc ?_ _)); refine blk_put (cs := #[.int .i64 8, .int .i64 0, .string (⟨#[]⟩ : ByteArray), .string (⟨#[]⟩ : ByteArray)]) ?_ 1 _ rfl; (with_reducible repeat (first | refine blk_drewN ?_ _ | refine blk_drew ?_ | refine blk_alloc ?_ _)); refine blk_put (cs := #[.int .i64 0, .int .i64 0, .string (⟨#[]⟩ : ByteArray), .string (⟨#[]⟩ : ByteArray)]) ?_ 0 _ rfl; (with_reducible repeat (first | refine blk_drewN ?_ _ | refine blk_drew ?_ | refine blk_alloc ?_ _)); exact BK190.out) Tryd.underlying67 rfl (by kernel_rfl)) rfl ?_
  exact ⟨rsl_, bel_⟩
 ·rw [if_neg c3] at H
  have c3b0 : decide (a1 < 0) = false := decide_eq_false c3
  clear c3
  by_cases c6 : a1 ≥ (l0.length : Int)
  ·rw [if_pos c6] at H
   have c6b0 : decide ((l0.length : Int) ≤ a1) = true := decide_eq_true c6
   clear c6
   simp only [Option.some.injEq, Prod.mk.injEq] at H
   obtain ⟨rfl, rfl, rfl, rfl⟩ := H
   go_enter Tryd.func69, Tryd.ntmps69
   go_wp2_with (first | ((with_reducible refine gate_dst (N := 4) rfl ?_); (try (refine gate_guard (by rfl) ?_; dsimp only)); refine box_event ?hg (N := 4) ?hd (cs := #[.int .i64 0, .int .i64 0, .string (⟨#[]⟩ : ByteArray), .string (⟨#[]⟩ : ByteArray)]) (t := 67) ?hr ?_; (case hd => rfl); (case hg => rfl); (case hr => first | (go_simp; done) | (go_simp; rfl)); intro gb190 hg w7 hbox hb; have n0_ := Aside0.mk (below_step bel_ hb); have n1_ := Aside0.mk (hbox); have n2_ := Aside0.mk ((bsz_ hg : w.heap.size ≤ gb190)); have n3_ := Aside0.mk ((bsz_ hg : w.heap.size ≤ gb190)); clear HB; have HB := n0_; have BK190 := n1_; have GW190 := n2_; have GE190 := n3_; clear n0_ n1_ n2_ n3_; clear hb hbox hg; have hcz8_0 : w7.cell? ⟨gb190, 0, none⟩ = some (.int .i64 0) := (blk_cell BK190.out 0).trans rfl; have hcz8_1 : w7.cell? ⟨gb190, 1, none⟩ = some (.int .i64 0) := (blk_cell BK190.out 1).trans rfl; have hcz8_2 : w7.cell? ⟨gb190, 2, none⟩ = some (.string (⟨#[]⟩ : ByteArray)) := (blk_cell BK190.out 2).trans rfl; have hcz8_3 : w7.cell? ⟨gb190, 3, none⟩ = some (.string (⟨#[]⟩ : ByteArray)) := (blk_cell BK190.out 3).trans rfl; have hfz8_0 := blk_frozen BK190.out 0; have hfz8_1 := blk_frozen BK190.out 1; have hfz8_2 := blk_frozen BK190.out 2; have hfz8_3 := blk_frozen BK190.out 3))
   refine bodyPost_ret (results_cell_row rfl _ _ gb190 67 #[.int .i64 8, .int .i64 0, .string (⟨#[]⟩ : ByteArray), .string (⟨#[]⟩ : ByteArray)] (0, 0) _ rfl (by (with_reducible repeat (first | refine blk_drewN ?_ _ | refine blk_drew ?_ | refine blk_alloc ?_ _)); refine blk_put (cs := #[.int .i64 8, .int .i64 0, .string (⟨#[]⟩ : ByteArray), .string (⟨#[]⟩ : ByteArray)]) ?_ 3 _ rfl; (with_reducible repeat (first | refine blk_drewN ?_ _ | refine blk_drew ?_ | refine blk_alloc ?_ _)); refine blk_put (cs := #[.int .i64 8, .int .i64 0, .string (⟨#[]⟩ : ByteArray), .string (⟨#[]⟩ : ByteArray)]) ?_ 2 _ rfl; (with_reducible repeat (first | refine blk_drewN ?_ _ | refine blk_drew ?_ | refine blk_alloc ?_ _)); refine blk_put (cs := #[.int .i64 8, .int .i64 0, .string (⟨#[]⟩ : ByteArray), .string (⟨#[]⟩ : ByteArray)]) ?_ 1 _ rfl; (with_reducible repeat (first | refine blk_drewN ?_ _ | refine blk_drew ?_ | refine blk_alloc ?_ _)); refine blk_put (cs := #[.int .i64 0, .int .i64 0, .string (⟨#[]⟩ : ByteArray), .string (⟨#[]⟩ : ByteArray)]) ?_ 0 _ rfl; (with_reducible repeat (first | refine blk_drewN ?_ _ | refine blk_drew ?_ | refine blk_alloc ?_ _)); exact BK190.out) Tryd.underlying67 rfl (by kernel_rfl)) rfl ?_
   exact ⟨rsl_, bel_⟩
  ·rw [if_neg c6] at H
   have c6b0 : decide ((l0.length : Int) ≤ a1) = false := decide_eq_false c6
   clear c6
   by_cases c9 : 0 ≤ a1
   ·rw [if_pos c9] at H
    have c9b0 : decide (0 ≤ a1) = true := decide_eq_true c9
    clear c9
    by_cases c10 : a1 < (l0.length : Int)
    ·rw [if_pos c10] at H
     have c10b0 : decide (a1 < (l0.length : Int)) = true := decide_eq_true c10
     clear c10
     simp only [Option.some.injEq, Prod.mk.injEq] at H
     obtain ⟨rfl, rfl, rfl, rfl⟩ := H
     go_enter Tryd.func69, Tryd.ntmps69
     go_wp2_with (first | ((with_reducible refine gate_dst (N := 4) rfl ?_); (try (refine gate_guard (by rfl) ?_; dsimp only)); refine box_event ?hg (N := 4) ?hd (cs := #[.int .i64 0, .int .i64 0, .string (⟨#[]⟩ : ByteArray), .string (⟨#[]⟩ : ByteArray)]) (t := 67) ?hr ?_; (case hd => rfl); (case hg => rfl); (case hr => first | (go_simp; done) | (go_simp; rfl)); intro gb190 hg w11 hbox hb; have n0_ := Aside0.mk (below_step bel_ hb); have n1_ := Aside0.mk (hbox); have n2_ := Aside0.mk ((bsz_ hg : w.heap.size ≤ gb190)); have n3_ := Aside0.mk ((bsz_ hg : w.heap.size ≤ gb190)); clear HB; have HB := n0_; have BK190 := n1_; have GW190 := n2_; have GE190 := n3_; clear n0_ n1_ n2_ n3_; clear hb hbox hg; have p191 : 0 ≤ (a1 : Int) := of_decide_eq_true (by first | (with_reducible assumption) | assumption); have q191 : a1 < (l0.length : Int) := of_decide_eq_true (by first | (with_reducible assumption) | assumption); obtain ⟨ad191, e191, hx191_0, hx191_1, hx191_2, hx191_3⟩ := at_T67 HR0.out a1 p191 q191; cases e191; replace hx191_0 := (HB.out.cell (World.block_lt_of_cell? w _ hx191_0)).trans hx191_0; replace hx191_1 := (HB.out.cell (World.block_lt_of_cell? w _ hx191_1)).trans hx191_1; replace hx191_2 := (HB.out.cell (World.block_lt_of_cell? w _ hx191_2)).trans hx191_2; replace hx191_3 := (HB.out.cell (World.block_lt_of_cell? w _ hx191_3)).trans hx191_3; replace p191 := eq_true p191; replace q191 := eq_true q191; have hcz12_0 : w11.cell? ⟨gb190, 0, none⟩ = some (.int .i64 0) := (blk_cell BK190.out 0).trans rfl; have hcz12_1 : w11.cell? ⟨gb190, 1, none⟩ = some (.int .i64 0) := (blk_cell BK190.out 1).trans rfl; have hcz12_2 : w11.cell? ⟨gb190, 2, none⟩ = some (.string (⟨#[]⟩ : ByteArray)) := (blk_cell BK190.out 2).trans rfl; have hcz12_3 : w11.cell? ⟨gb190, 3, none⟩ = some (.string (⟨#[]⟩ : ByteArray)) := (blk_cell BK190.out 3).trans rfl; have hfz12_0 := blk_frozen BK190.out 0; have hfz12_1 := blk_frozen BK190.out 1; have hfz12_2 := blk_frozen BK190.out 2; have hfz12_3 := blk_frozen BK190.out 3))
     refine bodyPost_ret (results_cell_row rfl _ _ gb190 67 #[.int .i64 ((rd_T67 l0 a1).f0), .int .i64 ((rd_T67 l0 a1).f1), .string ((rd_T67 l0 a1).f2), .string ((rd_T67 l0 a1).f3)] (0, 0) _ rfl (by (with_reducible repeat (first | refine blk_drewN ?_ _ | refine blk_drew ?_ | refine blk_alloc ?_ _)); refine blk_put (cs := #[.int .i64 ((rd_T67 l0 a1).f0), .int .i64 ((rd_T67 l0 a1).f1), .string ((rd_T67 l0 a1).f2), .string (⟨#[]⟩ : ByteArray)]) ?_ 3 _ rfl; (with_reducible repeat (first | refine blk_drewN ?_ _ | refine blk_drew ?_ | refine blk_alloc ?_ _)); refine blk_put (cs := #[.int .i64 ((rd_T67 l0 a1).f0), .int .i64 ((rd_T67 l0 a1).f1), .string (⟨#[]⟩ : ByteArray), .string (⟨#[]⟩ : ByteArray)]) ?_ 2 _ rfl; (with_reducible repeat (first | refine blk_drewN ?_ _ | refine blk_drew ?_ | refine blk_alloc ?_ _)); refine blk_put (cs := #[.int .i64 ((rd_T67 l0 a1).f0), .int .i64 0, .string (⟨#[]⟩ : ByteArray), .string (⟨#[]⟩ : ByteArray)]) ?_ 1 _ rfl; (with_reducible repeat (first | refine blk_drewN ?_ _ | refine blk_drew ?_ | refine blk_alloc ?_ _)); refine blk_put (cs := #[.int .i64 0, .int .i64 0, .string (⟨#[]⟩ : ByteArray), .string (⟨#[]⟩ : ByteArray)]) ?_ 0 _ rfl; (with_reducible repeat (first | refine blk_drewN ?_ _ | refine blk_drew ?_ | refine blk_alloc ?_ _)); exact BK190.out) Tryd.underlying67 rfl (by kernel_rfl)) rfl ?_
     exact ⟨rsl_, bel_⟩
    ·rw [if_neg c10] at H
     exact absurd H (by simp)
   ·rw [if_neg c9] at H
    exact absurd H (by simp)

/-! ### value_Keyword: function 37 -/
def value_Keyword.l0 : Nat → Int → List ByteArray → Int → Int → Int → Int → ByteArray → ByteArray → Option (Int × Int)
 | 0, _, _, _, _, _, _, _, _ => none
 | k + 1, x1, x17, x18, x19, x197000, x197001, x197002, x197003 => if x19 < x18 then (if 0 ≤ x19 then (if x19 < (x17.length : Int) then ((ident_Is.f x197002 (rdOf ByteArray.empty x17 x19)).bind fun t198 => (if t198 = true then (some (x19, wrap64 (x1 + 1))) else (value_Keyword.l0 k x1 x17 x18 (wrap64 (x19 + 1)) x197000 x197001 x197002 x197003))) else (none)) else (none)) else (some ((-1), x1))
def value_Keyword.f (k : Nat) (l0 : List (S67)) (a1 : Int) (l2 : List ByteArray) : Option (Int × Int) := (value_word.f l0 a1).bind fun bt192 => (if bt192.1 = 1 then (value_Keyword.l0 k a1 l2 (l2.length : Int) 0 bt192.1 bt192.2.1 bt192.2.2.1 bt192.2.2.2) else (some ((-1), a1)))
theorem value_Keyword.mono_l : ∀ k, (∀ y0 y1 y2 y3 y4 y5 y6 y7, LeO (value_Keyword.l0 k y0 y1 y2 y3 y4 y5 y6 y7) (value_Keyword.l0 (k + 1) y0 y1 y2 y3 y4 y5 y6 y7))
 | 0 => fun _ _ _ _ _ _ _ _ r h => by simp [value_Keyword.l0] at h
 | k + 1 => by
  have ih0 := value_Keyword.mono_l k
  ·intro y0 y1 y2 y3 y4 y5 y6 y7
   unfold value_Keyword.l0
   repeat' first
   | (with_reducible exact ih0 _ _ _ _ _ _ _ _)
   | (with_reducible exact LeO.refl _)
   | (with_reducible exact LeO.none _)
   | (with_reducible refine LeO.ite ?_ ?_)
   | (with_reducible refine LeO.bind ?_ (fun _ => ?_))
theorem value_Keyword.mono : ∀ a0 a1 a2 k, LeO (value_Keyword.f k a0 a1 a2) (value_Keyword.f (k + 1) a0 a1 a2) := by
 intro a0 a1 a2 k
 have ih0 := value_Keyword.mono_l k
 unfold value_Keyword.f
 repeat' first
   | (with_reducible exact ih0 _ _ _ _ _ _ _ _)
   | (with_reducible exact LeO.refl _)
   | (with_reducible exact LeO.none _)
   | (with_reducible refine LeO.ite ?_ ?_)
   | (with_reducible refine LeO.bind ?_ (fun _ => ?_))
set_option maxHeartbeats 8000000 in
set_option maxRecDepth 100000 in
theorem value_Keyword.calls (k : Nat) (A0 : Option Addr) (c0 : Nat) (l0 : List (S67)) (a1 : Int) (A2 : Option Addr) (c2 : Nat) (l2 : List ByteArray) (r1 : Int) (r2 : Int) (w : World) (hr0 : Kd.C k67 w A0 l0.length l0) (hc0 : l0.length ≤ c0) (hr2 : Kd.C Kd.string w A2 l2.length l2) (hc2 : l2.length ≤ c2) (h : value_Keyword.f k l0 a1 l2 = some (r1, r2)) :
  Calls Tryd.prog 37 #[.slice A0 l0.length c0, .int .i64 a1, .slice A2 l2.length c2] w fun e w' => e = .returned (.tuple #[.int .i64 r1, .int .i64 r2]) ∧ Below w.heap.size w w' := by
 have hu67 := Tryd.underlying67
 have HR0 := Aside0.mk hr0
 have HC0 := Aside0.mk hc0
 clear hr0 hc0
 have HR2 := Aside0.mk hr2
 have HC2 := Aside0.mk hc2
 clear hr2 hc2
 have HB := Aside0.mk (Below.refl w.heap.size w)
 have H : ((value_word.f l0 a1).bind fun bt192 => (if bt192.1 = 1 then (value_Keyword.l0 k a1 l2 (l2.length : Int) 0 bt192.1 bt192.2.1 bt192.2.2.1 bt192.2.2.2) else (some ((-1), a1)))) = some (r1, r2) := h
 clear h
 replace H := Option.bind_eq_some_iff.mp H
 obtain ⟨⟨t192, t193, t194, t195⟩, A40, H⟩ := H
 try dsimp only at H
 have A4 := Aside0.mk A40
 clear A40
 by_cases c5 : t192 = 1
 ·rw [if_pos c5] at H
  have c5b0 : (t192 == 1) = true := beq_iff_eq.mpr c5
  have c5b1 : (t192 != 1) = false := bne_eq_false_iff_eq.mpr c5
  clear c5
  have H' := Aside0.mk H
  clear H
  go_enter Tryd.func37, Tryd.ntmps37
  go_wp2_with (first | ((with_reducible refine gate_callee (f := 69) rfl ?_); refine goesL_ (some 13) rfl rfl Tryd.func69 (by kernel_rfl) rfl #[.slice A0 l0.length c0, .int .i64 a1] rfl goa_ ?_; (with_reducible refine (value_word.calls _ _ l0 a1 t192 t193 t194 t195 _ ?side1 ?side2 A4.out).mono ?_); (case side1 => repeat (first | exact HR0.out | (with_reducible refine Kd.C_alloc ?_ _) | (with_reducible refine Kd.C_drewN ?_ _) | (with_reducible refine Kd.C_drew ?_))); (case side2 => exact HC0.out); rintro e w6 ⟨rfl, hb⟩; refine ⟨_, rfl, ?_⟩; have n0_ := Aside0.mk (below_step bel_ hb); clear HB; have HB := n0_; clear n0_; clear hb) | ((with_reducible refine gate_dst (N := 8) rfl ?_); refine box_event ?hg (N := 8) ?hd (cs := #[.int .i64 0, .int .i64 0, .string (⟨#[]⟩ : ByteArray), .string (⟨#[]⟩ : ByteArray)]) (t := 67) ?hr ?_; (case hd => rfl); (case hg => rfl); (case hr => first | (go_simp; done) | (go_simp; rfl)); intro gb196 hg w7 hbox hb; have n0_ := Aside0.mk (below_step bel_ hb); have n1_ := Aside0.mk (hbox); have n2_ := Aside0.mk ((bsz_ hg : w.heap.size ≤ gb196)); have n3_ := Aside0.mk ((bsz_ hg : w.heap.size ≤ gb196)); clear HB; have HB := n0_; have BK196 := n1_; have GW196 := n2_; have GE196 := n3_; clear n0_ n1_ n2_ n3_; clear hb hbox hg; have hcz8_0 : w7.cell? ⟨gb196, 0, none⟩ = some (.int .i64 0) := (blk_cell BK196.out 0).trans rfl; have hcz8_1 : w7.cell? ⟨gb196, 1, none⟩ = some (.int .i64 0) := (blk_cell BK196.out 1).trans rfl; have hcz8_2 : w7.cell? ⟨gb196, 2, none⟩ = some (.string (⟨#[]⟩ : ByteArray)) := (blk_cell BK196.out 2).trans rfl; have hcz8_3 : w7.cell? ⟨gb196, 3, none⟩ = some (.string (⟨#[]⟩ : ByteArray)) := (blk_cell BK196.out 3).trans rfl; have hfz8_0 := blk_frozen BK196.out 0; have hfz8_1 := blk_frozen BK196.out 1; have hfz8_2 := blk_frozen BK196.out 2; have hfz8_3 := blk_frozen BK196.out 3))
  go_loopg [19] k (fun kq v19 w' => ∃ (x19_1 : Int), v19 = .int .i64 x19_1 ∧ Aside0 (value_Keyword.l0 kq a1 l2 (l2.length : Int) x19_1 t192 t193 t194 t195 = some (r1, r2)) ∧ Aside0 (kq ≤ k) ∧ Aside0 (w'.heap[gb196]? = some (.cells #[.int .i64 t192, .int .i64 t193, .string t194, .string t195] 67 (0, 0))) ∧ Aside0 (Below w.heap.size w w'))
  case atStart => exact ⟨(0), rfs_, H', ⟨Nat.le_refl _⟩, ⟨by (with_reducible repeat (first | refine blk_drewN ?_ _ | refine blk_drew ?_ | refine blk_alloc ?_ _)); refine blk_put (cs := #[.int .i64 t192, .int .i64 t193, .string t194, .string (⟨#[]⟩ : ByteArray)]) ?_ 3 _ rfl; (with_reducible repeat (first | refine blk_drewN ?_ _ | refine blk_drew ?_ | refine blk_alloc ?_ _)); refine blk_put (cs := #[.int .i64 t192, .int .i64 t193, .string (⟨#[]⟩ : ByteArray), .string (⟨#[]⟩ : ByteArray)]) ?_ 2 _ rfl; (with_reducible repeat (first | refine blk_drewN ?_ _ | refine blk_drew ?_ | refine blk_alloc ?_ _)); refine blk_put (cs := #[.int .i64 t192, .int .i64 0, .string (⟨#[]⟩ : ByteArray), .string (⟨#[]⟩ : ByteArray)]) ?_ 1 _ rfl; (with_reducible repeat (first | refine blk_drewN ?_ _ | refine blk_drew ?_ | refine blk_alloc ?_ _)); refine blk_put (cs := #[.int .i64 0, .int .i64 0, .string (⟨#[]⟩ : ByteArray), .string (⟨#[]⟩ : ByteArray)]) ?_ 0 _ rfl; (with_reducible repeat (first | refine blk_drewN ?_ _ | refine blk_drew ?_ | refine blk_alloc ?_ _)); exact BK196.out⟩, ⟨bel_⟩⟩
  case round =>
   clear H'
   try clear c2
   try clear p2
   try clear c3
   try clear c5
   try clear c5b0
   try clear c5b1
   try clear c6
   try clear hcz8_0
   try clear hcz8_1
   try clear hcz8_2
   try clear hcz8_3
   try clear hfz8_0
   try clear hfz8_1
   try clear hfz8_2
   try clear hfz8_3
   obtain ⟨x19_1, rfl, HA, HK1, BK196, HB⟩ := hrel
   cases gk with
   | zero => exact absurd HA.out (by simp [value_Keyword.l0])
   | succ k1 =>
    have H := HA.out
    clear HA
    simp only [value_Keyword.l0] at H
    by_cases c9 : x19_1 < (l2.length : Int)
    ·rw [if_pos c9] at H
     have c9b0 : decide (x19_1 < (l2.length : Int)) = true := decide_eq_true c9
     clear c9
     by_cases c10 : 0 ≤ x19_1
     ·rw [if_pos c10] at H
      have c10b0 : decide (0 ≤ x19_1) = true := decide_eq_true c10
      clear c10
      by_cases c11 : x19_1 < (l2.length : Int)
      ·rw [if_pos c11] at H
       have c11b0 : decide (x19_1 < (l2.length : Int)) = true := decide_eq_true c11
       clear c11
       replace H := Option.bind_eq_some_iff.mp H
       obtain ⟨t198, A120, H⟩ := H
       try dsimp only at H
       have A12 := Aside0.mk A120
       clear A120
       by_cases c13 : t198 = true
       ·subst c13
        rw [if_pos rfl] at H
        simp only [Option.some.injEq, Prod.mk.injEq] at H
        obtain ⟨rfl, rfl⟩ := H
        have p197 : 0 ≤ (x19_1 : Int) := of_decide_eq_true (by first | (with_reducible assumption) | assumption)
        have q197 : x19_1 < (l2.length : Int) := of_decide_eq_true (by first | (with_reducible assumption) | assumption)
        obtain ⟨ad197, e197, hx197_0⟩ := Kd.at_string HR2.out x19_1 p197 q197
        cases e197
        replace hx197_0 := (HB.out.cell (World.block_lt_of_cell? w _ hx197_0)).trans hx197_0
        replace p197 := eq_true p197
        replace q197 := eq_true q197
        have hcz14_0 : wr.cell? ⟨gb196, 0, none⟩ = some (.int .i64 t192) := (blk_cell BK196.out 0).trans rfl
        have hcz14_1 : wr.cell? ⟨gb196, 1, none⟩ = some (.int .i64 t193) := (blk_cell BK196.out 1).trans rfl
        have hcz14_2 : wr.cell? ⟨gb196, 2, none⟩ = some (.string t194) := (blk_cell BK196.out 2).trans rfl
        have hcz14_3 : wr.cell? ⟨gb196, 3, none⟩ = some (.string t195) := (blk_cell BK196.out 3).trans rfl
        have hfz14_0 := blk_frozen BK196.out 0
        have hfz14_1 := blk_frozen BK196.out 1
        have hfz14_2 := blk_frozen BK196.out 2
        have hfz14_3 := blk_frozen BK196.out 3
        go_wp2_with (first | ((with_reducible refine gate_callee (f := 47) rfl ?_); refine goesL_ (some 27) rfl rfl Tryd.func47 (by kernel_rfl) rfl #[.string t194, .string (rdOf ByteArray.empty l2 x19_1)] rfl goa_ ?_; (with_reducible refine (ident_Is.calls t194 (rdOf ByteArray.empty l2 x19_1) true _ A12.out).mono ?_); rintro e w15 ⟨rfl, hb⟩; refine ⟨_, rfl, ?_⟩; have n0_ := blb_ BK196 hb; have n1_ := Aside0.mk (below_step bel_ hb); clear BK196; clear HB; have BK196 := n0_; have HB := n1_; clear n0_ n1_; clear hb))
        go_ret2
        exact ⟨rsl_, bel_⟩
       ·replace c13 := Bool.eq_false_iff.mpr c13
        subst c13
        rw [if_neg (show ¬ (false = true) by decide)] at H
        have H' := Aside0.mk H
        clear H
        have p197 : 0 ≤ (x19_1 : Int) := of_decide_eq_true (by first | (with_reducible assumption) | assumption)
        have q197 : x19_1 < (l2.length : Int) := of_decide_eq_true (by first | (with_reducible assumption) | assumption)
        obtain ⟨ad197, e197, hx197_0⟩ := Kd.at_string HR2.out x19_1 p197 q197
        cases e197
        replace hx197_0 := (HB.out.cell (World.block_lt_of_cell? w _ hx197_0)).trans hx197_0
        replace p197 := eq_true p197
        replace q197 := eq_true q197
        have hcz16_0 : wr.cell? ⟨gb196, 0, none⟩ = some (.int .i64 t192) := (blk_cell BK196.out 0).trans rfl
        have hcz16_1 : wr.cell? ⟨gb196, 1, none⟩ = some (.int .i64 t193) := (blk_cell BK196.out 1).trans rfl
        have hcz16_2 : wr.cell? ⟨gb196, 2, none⟩ = some (.string t194) := (blk_cell BK196.out 2).trans rfl
        have hcz16_3 : wr.cell? ⟨gb196, 3, none⟩ = some (.string t195) := (blk_cell BK196.out 3).trans rfl
        have hfz16_0 := blk_frozen BK196.out 0
        have hfz16_1 := blk_frozen BK196.out 1
        have hfz16_2 := blk_frozen BK196.out 2
        have hfz16_3 := blk_frozen BK196.out 3
        go_wp2_with (first | ((with_reducible refine gate_callee (f := 47) rfl ?_); refine goesL_ (some 27) rfl rfl Tryd.func47 (by kernel_rfl) rfl #[.string t194, .string (rdOf ByteArray.empty l2 x19_1)] rfl goa_ ?_; (with_reducible refine (ident_Is.calls t194 (rdOf ByteArray.empty l2 x19_1) false _ A12.out).mono ?_); rintro e w17 ⟨rfl, hb⟩; refine ⟨_, rfl, ?_⟩; have n0_ := blb_ BK196 hb; have n1_ := Aside0.mk (below_step bel_ hb); clear BK196; clear HB; have BK196 := n0_; have HB := n1_; clear n0_ n1_; clear hb))
        go_roundg k1
        case measure => have := HK1.out; omega
        case rel => exact ⟨(wrap64 (x19_1 + 1)), rfs_, H', ⟨by have := HK1.out; omega⟩, ⟨blk_⟩, ⟨bel_⟩⟩
      ·rw [if_neg c11] at H
       exact absurd H (by simp)
     ·rw [if_neg c10] at H
      exact absurd H (by simp)
    ·rw [if_neg c9] at H
     have c9b0 : decide (x19_1 < (l2.length : Int)) = false := decide_eq_false c9
     clear c9
     simp only [Option.some.injEq, Prod.mk.injEq] at H
     obtain ⟨rfl, rfl⟩ := H
     go_wp2
     go_ret2
     exact ⟨rsl_, bel_⟩
 ·rw [if_neg c5] at H
  have c5b0 : (t192 == 1) = false := beq_eq_false_iff_ne.mpr c5
  have c5b1 : (t192 != 1) = true := bne_iff_ne.mpr c5
  simp only [Option.some.injEq, Prod.mk.injEq] at H
  obtain ⟨rfl, rfl⟩ := H
  go_enter Tryd.func37, Tryd.ntmps37
  go_wp2_with (first | ((with_reducible refine gate_callee (f := 69) rfl ?_); refine goesL_ (some 13) rfl rfl Tryd.func69 (by kernel_rfl) rfl #[.slice A0 l0.length c0, .int .i64 a1] rfl goa_ ?_; (with_reducible refine (value_word.calls _ _ l0 a1 t192 t193 t194 t195 _ ?side1 ?side2 A4.out).mono ?_); (case side1 => repeat (first | exact HR0.out | (with_reducible refine Kd.C_alloc ?_ _) | (with_reducible refine Kd.C_drewN ?_ _) | (with_reducible refine Kd.C_drew ?_))); (case side2 => exact HC0.out); rintro e w18 ⟨rfl, hb⟩; refine ⟨_, rfl, ?_⟩; have n0_ := Aside0.mk (below_step bel_ hb); clear HB; have HB := n0_; clear n0_; clear hb) | ((with_reducible refine gate_dst (N := 8) rfl ?_); refine box_event ?hg (N := 8) ?hd (cs := #[.int .i64 0, .int .i64 0, .string (⟨#[]⟩ : ByteArray), .string (⟨#[]⟩ : ByteArray)]) (t := 67) ?hr ?_; (case hd => rfl); (case hg => rfl); (case hr => first | (go_simp; done) | (go_simp; rfl)); intro gb196 hg w19 hbox hb; have n0_ := Aside0.mk (below_step bel_ hb); have n1_ := Aside0.mk (hbox); have n2_ := Aside0.mk ((bsz_ hg : w.heap.size ≤ gb196)); have n3_ := Aside0.mk ((bsz_ hg : w.heap.size ≤ gb196)); clear HB; have HB := n0_; have BK196 := n1_; have GW196 := n2_; have GE196 := n3_; clear n0_ n1_ n2_ n3_; clear hb hbox hg; have hcz20_0 : w19.cell? ⟨gb196, 0, none⟩ = some (.int .i64 0) := (blk_cell BK196.out 0).trans rfl; have hcz20_1 : w19.cell? ⟨gb196, 1, none⟩ = some (.int .i64 0) := (blk_cell BK196.out 1).trans rfl; have hcz20_2 : w19.cell? ⟨gb196, 2, none⟩ = some (.string (⟨#[]⟩ : ByteArray)) := (blk_cell BK196.out 2).trans rfl; have hcz20_3 : w19.cell? ⟨gb196, 3, none⟩ = some (.string (⟨#[]⟩ : ByteArray)) := (blk_cell BK196.out 3).trans rfl; have hfz20_0 := blk_frozen BK196.out 0; have hfz20_1 := blk_frozen BK196.out 1; have hfz20_2 := blk_frozen BK196.out 2; have hfz20_3 := blk_frozen BK196.out 3))
  go_ret2
  exact ⟨rsl_, bel_⟩

end Go.Proofs.YtofdhdafabmhmaaDoor.PAr
end
section
namespace Go.Proofs.YtofdhdafabmhmaaDoor.PAr
open Go.RowKit Go.Proofs.YtofdhdafabmhmaaDoorW.PrintWords Go.Proofs.YtofdhdafabmhmaaDoorW.PrintLast Go.Proofs.YtofdhdafabmhmaaDoorW.PrintMore
attribute [local go_sem] max2_int min2_int max_two min_two max_three min_three max_four min_four
open Go.Proofs.YtofdhdafabmhmaaDoor.Opn Go.Proofs.YtofdhdafabmhmaaDoor.Giv

theorem eqA33 (d : Nat) (w : World) (x0 y0 : ByteArray) (x1 y1 : Int) (x2 y2 : Int) (x3 y3 : Int) (x4 y4 : Int) :
  (Op.equalIn (d + 2) 33 (.agg #[.string x0, .int .i64 x1, .int .i64 x2, .int .i64 x3, .int .i64 x4]) (.agg #[.string y0, .int .i64 y1, .int .i64 y2, .int .i64 y3, .int .i64 y4])).run Tryd.prog w = .ok (x0.toList == y0.toList && (x1 == y1 && (x2 == y2 && (x3 == y3 && (x4 == y4))))) w := by
 refine eqA_of Tryd.underlying33 (by kernel_rfl) ?_
 refine eqf_cons (by rfl) (by go_simp; rfl) (by go_simp; rfl) (by go_simp) ?_
 refine eqf_cons (by rfl) (by go_simp; rfl) (by go_simp; rfl) (by go_simp) ?_
 refine eqf_cons (by rfl) (by go_simp; rfl) (by go_simp; rfl) (by go_simp) ?_
 refine eqf_cons (by rfl) (by go_simp; rfl) (by go_simp; rfl) (by go_simp) ?_
 exact eqf_last (by rfl) (by go_simp; rfl) (by go_simp; rfl) (by go_simp)
end Go.Proofs.YtofdhdafabmhmaaDoor.PAr
end
section
/- strings.TrimLeft and strings.Join, out of the shelf: at the cutset of blanks, and at texts that fit. -/
namespace Go.Proofs
open Go.Shelf Go.RowKit
shelf_lay Lays.n161 Nm 161 at Tryd as Tryd.arlays161
shelf_lay Lays.n156 Nm 156 at Tryd as Tryd.arlays156
theorem Tryd.ArExtra : Builder.Extra Tryd.prog Tryd.arlays156_ren := {
  sizeBuilder := by kernel_rfl
  liesBuilder := by kernel_rfl
  t5 := Tryd.underlying5
  a5 := Tryd.isAgg5
  z5 := Tryd.sizeOf5
  v5 := Tryd.zeroValue5
  infoByte := by kernel_rfl
  cellsByte := by kernel_rfl
  sizeByte := by kernel_rfl
  neB5 := by decide }
end Go.Proofs
namespace Go.Proofs.YtofdhdafabmhmaaDoor.Giv
open Go.RowKit Go.Proofs.YtofdhdafabmhmaaDoorW.PrintWords Go.Proofs.YtofdhdafabmhmaaDoorW.PrintLast Go.Proofs.YtofdhdafabmhmaaDoorW.PrintMore
open Go.Proofs.YtofdhdafabmhmaaDoor.Opn
open Go
def strings_TrimLeft.f (a0 a1 : ByteArray) : Option ByteArray := if a1.data = #[32, 9, 10, 13, 12] then some ⟨(Lib.trimLeftS a0.data.toList [32, 9, 10, 13, 12]).toArray⟩ else none
theorem strings_TrimLeft.calls (a0 a1 : ByteArray) (r : ByteArray) (w : World) (h : strings_TrimLeft.f a0 a1 = some r) :
    Calls Tryd.prog 27 #[.string a0, .string a1] w fun e w' => e = .returned (.string r) ∧ Below w.heap.size w w' := by
  unfold strings_TrimLeft.f at h
  split at h
  · rename_i hc
    obtain ⟨d⟩ := a1
    obtain rfl : d = #[32, 9, 10, 13, 12] := hc
    obtain rfl := Option.some.inj h
    exact Any.strings_TrimLeft_laid Tryd.arlays161 (by kernel_rfl) a0 ⟨#[32, 9, 10, 13, 12]⟩ w (by decide) (ascii_of_all (by decide))
  · cases h
def strings_Join.f (l0 : List ByteArray) (a1 : ByteArray) : Option ByteArray :=
  if l0.length ≤ 140737488355328 ∧ (Lib.join (l0.map (·.data.toList)) a1.data.toList).length ≤ 140737488355328 then some ⟨(Lib.join (l0.map (·.data.toList)) a1.data.toList).toArray⟩ else none
theorem strings_Join.calls (A0 : Option Addr) (c0 : Nat) (l0 : List ByteArray) (a1 : ByteArray) (r : ByteArray) (w : World) (hr0 : Kd.C Kd.string w A0 l0.length l0) (hc0 : l0.length ≤ c0) (h : strings_Join.f l0 a1 = some r) :
    Calls Tryd.prog 35 #[.slice A0 l0.length c0, .string a1] w fun e w' => e = .returned (.string r) ∧ Below w.heap.size w w' := by
  unfold strings_Join.f at h
  split at h
  · rename_i hc
    obtain rfl := Option.some.inj h
    rcases Nat.eq_zero_or_pos l0.length with h0 | h0
    · obtain rfl := List.length_eq_zero_iff.1 h0
      refine (Any.strings_Join_none Tryd.arlays156 Tryd.ArExtra A0 c0 a1 w).mono ?_
      rintro e w' ⟨rfl, rfl⟩
      exact ⟨rfl, Below.refl _ _⟩
    · have hg : ∀ (j : Nat) (hj : j < l0.length), ∃ ad, A0 = some ad ∧ w.cell? (ad.add j) = some (.string l0[j]) := by
        intro j hj
        obtain ⟨ad, c, rfl, hl, hk, hcl⟩ := ReadsRow.get_ hr0 ByteArray.empty (j : Int) (by omega) (by omega)
        refine ⟨ad, rfl, ?_⟩
        obtain rfl : c = [.string (l0.getD j ByteArray.empty)] := hk
        have := hcl 0 _ rfl
        simpa [Kd.string, Kd.scalar, List.getD, hj] using this
      obtain ⟨ad, rfl, hc1⟩ := hg 0 h0
      obtain ⟨b, o, f⟩ := ad
      obtain rfl : f = none := by
        cases f with
        | none => rfl
        | some x =>
          have := hc1
          simp only [Addr.add, World.cell?] at this
          split at this <;> simp at this
      have hlt : b < w.heap.size := by
        have := hc1
        simp only [Addr.add, World.cell?] at this
        split at this
        · rename_i h1
          exact (Array.getElem?_eq_some_iff.1 h1).1
        · cases this
      refine Any.strings_Join Tryd.arlays156 Tryd.ArExtra b o c0 l0 a1 w (fun j x hj => ?_) hlt hc.1 hc0 hc.2
      obtain ⟨hj1, rfl⟩ := List.getElem?_eq_some_iff.1 hj
      obtain ⟨ad, ha, hd⟩ := hg j hj1
      cases ha
      have he : (⟨b, o, none⟩ : Addr).add j = ⟨b, o + j, none⟩ := by
        unfold Addr.add
        split
        · rename_i h0
          have : j = 0 := by simpa using h0
          rw [this]
          rfl
        · rfl
      rw [← he]
      exact hd
  · cases h
end Go.Proofs.YtofdhdafabmhmaaDoor.Giv
end
section
namespace Go.Proofs.YtofdhdafabmhmaaDoor.PAr
open Go.RowKit Go.Proofs.YtofdhdafabmhmaaDoorW.PrintWords Go.Proofs.YtofdhdafabmhmaaDoorW.PrintLast Go.Proofs.YtofdhdafabmhmaaDoorW.PrintMore
attribute [local go_sem] max2_int min2_int max_two min_two max_three min_three max_four min_four
open Go.Proofs.YtofdhdafabmhmaaDoor.Opn Go.Proofs.YtofdhdafabmhmaaDoor.Giv

/-! ### area_Cells: function 9 -/
def area_Cells.l0 : Nat → ByteArray → List ByteArray → Option (List ByteArray × Bool)
 | 0, _, _ => none
 | k + 1, x0, x4 => (strings_TrimLeft.f x0 (⟨#[32, 9, 10, 13, 12]⟩ : ByteArray)).bind fun t199 => (if t199.toList = ([] : List UInt8) then (some (x4, true)) else ((area_run.f k t199 29).bind fun t200 => ((area_run.f k t199 30).bind fun t201 => (if (wrap64 (t200 + t201)) = 0 then (some (([] : List ByteArray), false)) else (if 0 ≤ t200 then (if t200 ≤ (t199.size : Int) then (if x4.length < 8796093022208 then (if 0 ≤ (wrap64 (t200 + t201)) then (if (wrap64 (t200 + t201)) ≤ (t199.size : Int) then (area_Cells.l0 k (t199.extract ((wrap64 (t200 + t201)) : Int).toNat t199.size) (x4 ++ [t199.extract 0 (t200 : Int).toNat])) else (none)) else (none)) else (none)) else (none)) else (none))))))
def area_Cells.f (k : Nat) (a0 : ByteArray) : Option (List ByteArray × Bool) := area_Cells.l0 k a0 ([] : List ByteArray)
theorem area_Cells.mono_l : ∀ k, (∀ y0 y1, LeO (area_Cells.l0 k y0 y1) (area_Cells.l0 (k + 1) y0 y1))
 | 0 => fun _ _ r h => by simp [area_Cells.l0] at h
 | k + 1 => by
  have ih0 := area_Cells.mono_l k
  ·intro y0 y1
   unfold area_Cells.l0
   repeat' first
   | (with_reducible exact ih0 _ _)
   | (with_reducible exact area_run.mono _ _ _)
   | (with_reducible exact LeO.refl _)
   | (with_reducible exact LeO.none _)
   | (with_reducible refine LeO.ite ?_ ?_)
   | (with_reducible refine LeO.bind ?_ (fun _ => ?_))
theorem area_Cells.mono : ∀ a0 k, LeO (area_Cells.f k a0) (area_Cells.f (k + 1) a0) := by
 intro a0 k
 have ih0 := area_Cells.mono_l k
 unfold area_Cells.f
 repeat' first
   | (with_reducible exact ih0 _ _)
   | (with_reducible exact area_run.mono _ _ _)
   | (with_reducible exact LeO.refl _)
   | (with_reducible exact LeO.none _)
   | (with_reducible refine LeO.ite ?_ ?_)
   | (with_reducible refine LeO.bind ?_ (fun _ => ?_))
set_option maxHeartbeats 8000000 in
set_option maxRecDepth 100000 in
theorem area_Cells.calls (k : Nat) (a0 : ByteArray) (r1 : List ByteArray) (r2 : Bool) (w : World) (h : area_Cells.f k a0 = some (r1, r2)) :
  Calls Tryd.prog 9 #[.string a0] w fun e w' => ∃ v0_ : Value, e = .returned (.tuple #[v0_, .bool r2]) ∧ Kd.R Kd.string 9 w' w.heap.size (fun _ => True) v0_ r1 ∧ Below w.heap.size w w' := by
 have HB := Aside0.mk (Below.refl w.heap.size w)
 have H : (area_Cells.l0 k a0 ([] : List ByteArray)) = some (r1, r2) := h
 clear h
 have H' := Aside0.mk H
 clear H
 go_enter Tryd.func9, Tryd.ntmps9
 go_wp2
 go_loopg [0, 4] k (fun kq v0 v4 w' => ∃ (x0_1 : ByteArray) (x4_1 : List ByteArray), v0 = .string x0_1 ∧ Aside0 (area_Cells.l0 kq x0_1 x4_1 = some (r1, r2)) ∧ Aside0 (kq ≤ k) ∧ Aside0 (Kd.R Kd.string 9 w' w.heap.size (fun _ => True) v4 x4_1) ∧ Aside0 (Below w.heap.size w w'))
 case atStart => exact ⟨(a0), (([] : List ByteArray)), rfs_, H', ⟨Nat.le_refl _⟩, ⟨by first | exact Kd.R_nil _ _ _ _ _ | exact Kd.N_nil _ _ _ _ _ | exact Kd.V_nil _ _ _ _ _ | exact Kd.Q_nil _ _ _ _ _ | exact Kd.S_nil _ _ _ _ _⟩, ⟨bel_⟩⟩
 case round =>
  clear H'
  obtain ⟨x0_1, x4_1, rfl, HA, HK1, HO_4, HB⟩ := hrel
  cases gk with
  | zero => exact absurd HA.out (by simp [area_Cells.l0])
  | succ k1 =>
   have H := HA.out
   clear HA
   simp only [area_Cells.l0] at H
   replace H := Option.bind_eq_some_iff.mp H
   obtain ⟨t199, A20, H⟩ := H
   try dsimp only at H
   have A2 := Aside0.mk A20
   clear A20
   by_cases c3 : t199.toList = ([] : List UInt8)
   ·rw [if_pos c3] at H
    have c3b0 : (t199.toList == ([] : List UInt8)) = true := beq_iff_eq.mpr c3
    have c3b1 : (t199.toList != ([] : List UInt8)) = false := bne_eq_false_iff_eq.mpr c3
    clear c3
    simp only [Option.some.injEq, Prod.mk.injEq] at H
    obtain ⟨rfl, rfl⟩ := H
    go_wp2_with (first | ((with_reducible refine gate_callee (f := 27) rfl ?_); refine goesL_ (some 8) rfl rfl Tryd.func27 (by kernel_rfl) rfl #[.string x0_1, .string (⟨#[32, 9, 10, 13, 12]⟩ : ByteArray)] rfl goa_ ?_; (with_reducible refine (strings_TrimLeft.calls x0_1 (⟨#[32, 9, 10, 13, 12]⟩ : ByteArray) t199 _ A2.out).mono ?_); rintro e w4 ⟨rfl, hb⟩; refine ⟨_, rfl, ?_⟩; have n0_ := Aside0.mk (Kd.R_below (by (with_reducible repeat (first | apply Kd.R_alloc | apply Kd.R_drewN | apply Kd.R_drew)); exact HO_4.out) hb); have n1_ := Aside0.mk (below_step bel_ hb); clear HO_4; clear HB; have HO_4 := n0_; have HB := n1_; clear n0_ n1_; clear hb))
    go_ret2
    exact ⟨_, rsl_, by (with_reducible repeat (first | apply Kd.R_alloc | apply Kd.R_drewN | apply Kd.R_drew)); exact HO_4.out, bel_⟩
   ·rw [if_neg c3] at H
    have c3b0 : (t199.toList == ([] : List UInt8)) = false := beq_eq_false_iff_ne.mpr c3
    have c3b1 : (t199.toList != ([] : List UInt8)) = true := bne_iff_ne.mpr c3
    replace H := Option.bind_eq_some_iff.mp H
    obtain ⟨t200, A50, H⟩ := H
    try dsimp only at H
    have A5 := Aside0.mk A50
    clear A50
    replace H := Option.bind_eq_some_iff.mp H
    obtain ⟨t201, A60, H⟩ := H
    try dsimp only at H
    have A6 := Aside0.mk A60
    clear A60
    by_cases c7 : (wrap64 (t200 + t201)) = 0
    ·rw [if_pos c7] at H
     have c7b0 : ((wrap64 (t200 + t201)) == 0) = true := beq_iff_eq.mpr c7
     have c7b1 : ((wrap64 (t200 + t201)) != 0) = false := bne_eq_false_iff_eq.mpr c7
     clear c7
     simp only [Option.some.injEq, Prod.mk.injEq] at H
     obtain ⟨rfl, rfl⟩ := H
     go_wp2_with (first | ((with_reducible refine gate_callee (f := 27) rfl ?_); refine goesL_ (some 8) rfl rfl Tryd.func27 (by kernel_rfl) rfl #[.string x0_1, .string (⟨#[32, 9, 10, 13, 12]⟩ : ByteArray)] rfl goa_ ?_; (with_reducible refine (strings_TrimLeft.calls x0_1 (⟨#[32, 9, 10, 13, 12]⟩ : ByteArray) t199 _ A2.out).mono ?_); rintro e w8 ⟨rfl, hb⟩; refine ⟨_, rfl, ?_⟩; have n0_ := Aside0.mk (Kd.R_below (by (with_reducible repeat (first | apply Kd.R_alloc | apply Kd.R_drewN | apply Kd.R_drew)); exact HO_4.out) hb); have n1_ := Aside0.mk (below_step bel_ hb); clear HO_4; clear HB; have HO_4 := n0_; have HB := n1_; clear n0_ n1_; clear hb) | ((with_reducible refine gate_callee (f := 28) rfl ?_); refine goesL_ (some 13) rfl rfl Tryd.func28 (by kernel_rfl) rfl #[.string t199, .func (.func 29) #[] #[]] rfl goa_ ?_; (with_reducible refine (area_run.calls k1 t199 29 t200 _ A5.out).mono ?_); rintro e w' ⟨rfl, ⟨nd, rfl⟩⟩; refine ⟨_, rfl, ?_⟩) | ((with_reducible refine gate_callee (f := 28) rfl ?_); refine goesL_ (some 15) rfl rfl Tryd.func28 (by kernel_rfl) rfl #[.string t199, .func (.func 30) #[] #[]] rfl goa_ ?_; (with_reducible refine (area_run.calls k1 t199 30 t201 _ A6.out).mono ?_); rintro e w' ⟨rfl, ⟨nd, rfl⟩⟩; refine ⟨_, rfl, ?_⟩))
     go_ret2
     exact ⟨_, rsl_, by first | exact Kd.R_nil _ _ _ _ _ | exact Kd.N_nil _ _ _ _ _ | exact Kd.V_nil _ _ _ _ _ | exact Kd.Q_nil _ _ _ _ _ | exact Kd.S_nil _ _ _ _ _, bel_⟩
    ·rw [if_neg c7] at H
     have c7b0 : ((wrap64 (t200 + t201)) == 0) = false := beq_eq_false_iff_ne.mpr c7
     have c7b1 : ((wrap64 (t200 + t201)) != 0) = true := bne_iff_ne.mpr c7
     by_cases c9 : 0 ≤ t200
     ·rw [if_pos c9] at H
      have c9b0 := eq_true c9
      have c9b1 : decide (0 ≤ t200) = true := decide_eq_true c9
      clear c9
      by_cases c10 : t200 ≤ (t199.size : Int)
      ·rw [if_pos c10] at H
       have c10b0 := eq_true c10
       have c10b1 : decide (t200 ≤ (t199.size : Int)) = true := decide_eq_true c10
       clear c10
       by_cases c11 : x4_1.length < 8796093022208
       ·rw [if_pos c11] at H
        have LMc11 := Aside0.mk c11
        clear c11
        obtain ⟨y202, hy202⟩ : ∃ y_ : List ByteArray, y_ = (x4_1 ++ [t199.extract 0 (t200 : Int).toNat]) := ⟨_, rfl⟩
        replace H : (if 0 ≤ (wrap64 (t200 + t201)) then (if (wrap64 (t200 + t201)) ≤ (t199.size : Int) then (area_Cells.l0 k1 (t199.extract ((wrap64 (t200 + t201)) : Int).toNat t199.size) y202) else (none)) else (none)) = some (r1, r2) := by first | (rw [hy202]; with_reducible exact H) | (have H2_ := (Option.bind_some _ _).symm.trans H; rw [hy202]; with_reducible exact H2_) | (have H2_ := (Option.bind_some _ _).symm.trans H; with_reducible exact H2_) | with_reducible exact H | (rw [hy202]; exact H) | exact H
        have Ny202 := Aside0.mk hy202
        clear hy202
        obtain ⟨ji12, hji12⟩ : ∃ j_ : Int, (wrap64 (t200 + t201)) = j_ := ⟨_, rfl⟩
        replace H : (if 0 ≤ (ji12) then (if (ji12) ≤ (t199.size : Int) then (area_Cells.l0 k1 (t199.extract ((ji12) : Int).toNat t199.size) y202) else (none)) else (none)) = some (r1, r2) := by first | (rw [hji12] at H; exact H) | (simp only [hji12] at H ⊢; exact H)
        (try rw [hji12] at c7b0)
        (try rw [hji12] at c7b1)
        (try rw [hji12] at A2)
        (try rw [hji12] at A5)
        (try rw [hji12] at A6)
        have hji12w : (IntKind.i64.wrap (t200 + t201)) = ji12 := (i64_w _).trans hji12
        by_cases c13 : 0 ≤ (ji12)
        ·rw [if_pos c13] at H
         have c13b0 := eq_true c13
         have c13b1 : decide (0 ≤ (ji12)) = true := decide_eq_true c13
         clear c13
         by_cases c14 : (ji12) ≤ (t199.size : Int)
         ·rw [if_pos c14] at H
          have c14b0 := eq_true c14
          have c14b1 : decide ((ji12) ≤ (t199.size : Int)) = true := decide_eq_true c14
          clear c14
          have H' := Aside0.mk H
          clear H
          go_wp2_with (first | ((with_reducible refine gate_callee (f := 27) rfl ?_); refine goesL_ (some 8) rfl rfl Tryd.func27 (by kernel_rfl) rfl #[.string x0_1, .string (⟨#[32, 9, 10, 13, 12]⟩ : ByteArray)] rfl goa_ ?_; (with_reducible refine (strings_TrimLeft.calls x0_1 (⟨#[32, 9, 10, 13, 12]⟩ : ByteArray) t199 _ A2.out).mono ?_); rintro e w15 ⟨rfl, hb⟩; refine ⟨_, rfl, ?_⟩; have n0_ := Aside0.mk (Kd.R_below (by (with_reducible repeat (first | apply Kd.R_alloc | apply Kd.R_drewN | apply Kd.R_drew)); exact HO_4.out) hb); have n1_ := Aside0.mk (below_step bel_ hb); clear HO_4; clear HB; have HO_4 := n0_; have HB := n1_; clear n0_ n1_; clear hb) | ((with_reducible refine gate_callee (f := 28) rfl ?_); refine goesL_ (some 13) rfl rfl Tryd.func28 (by kernel_rfl) rfl #[.string t199, .func (.func 29) #[] #[]] rfl goa_ ?_; (with_reducible refine (area_run.calls k1 t199 29 t200 _ A5.out).mono ?_); rintro e w' ⟨rfl, ⟨nd, rfl⟩⟩; refine ⟨_, rfl, ?_⟩) | ((with_reducible refine gate_callee (f := 28) rfl ?_); refine goesL_ (some 15) rfl rfl Tryd.func28 (by kernel_rfl) rfl #[.string t199, .func (.func 30) #[] #[]] rfl goa_ ?_; (with_reducible refine (area_run.calls k1 t199 30 t201 _ A6.out).mono ?_); rintro e w' ⟨rfl, ⟨nd, rfl⟩⟩; refine ⟨_, rfl, ?_⟩) | ((with_reducible refine gate_builtin (b := .append) (xs := #[.tmp 20, .tmp 24]) rfl ?_); at_builtin; refine Kd.R_append Kd.string (w0 := w) w.heap.size rfl (.tmp 20) (.tmp 24) 23 9 (.string ⟨#[]⟩) 16 rfl Tryd.underlying23 info9 rfl (by decide) (by omega) u4 x4_1 (t199.extract 0 (t200 : Int).toNat) [.string (t199.extract 0 (t200 : Int).toNat)] (fun _ => True) (fun _ => False) rfl rfl ?aP (fun _ hk => hk.elim) ?aF ?aO ?aB ?aS ?aL ?_; (case aP => exact rfl); (case aB => exact bel_); (case aF => exact (fun _ _ => trivial)); (case aO => exact (by (with_reducible repeat (first | apply Kd.R_alloc | apply Kd.R_drewN | apply Kd.R_drew)); exact HO_4.out)); (case aS => exact (below_size bel_)); (case aL => have := LMc11.out; omega); intro v203 w16 ho hb hg hat; rw [← Ny202.out] at ho; have n0_ := Aside0.mk (hb); have n1_ := Aside0.mk (ho); clear HB; clear HO_4; have HB := n0_; have HO204 := n1_; clear n0_ n1_; clear ho hb hg hat))
          go_roundg k1
          case measure => have := HK1.out; omega
          case rel => exact ⟨(t199.extract ((ji12) : Int).toNat t199.size), (y202), (by first | rfl | (simp; done) | (simp only [← hji12] <;> (first | rfl | simp)) | (simp [*]; done)), H', ⟨by have := HK1.out; omega⟩, ⟨by (with_reducible repeat (first | apply Kd.R_alloc | apply Kd.R_drewN | apply Kd.R_drew)); exact HO204.out⟩, ⟨bel_⟩⟩
         ·rw [if_neg c14] at H
          exact absurd H (by simp)
        ·rw [if_neg c13] at H
         exact absurd H (by simp)
       ·rw [if_neg c11] at H
        exact absurd H (by simp)
      ·rw [if_neg c10] at H
       exact absurd H (by simp)
     ·rw [if_neg c9] at H
      exact absurd H (by simp)

/-! ### area_row_1: function 70 -/
def area_row_1.f (a0 : ByteArray) : Option (Bool) := some (decide ((a0.size : Int) > 64))
set_option maxHeartbeats 8000000 in
set_option maxRecDepth 100000 in
theorem area_row_1.calls (a0 : ByteArray) (r : Bool) (w : World) (h : area_row_1.f a0 = some r) :
  Calls Tryd.prog 70 #[.string a0] w fun e w' => e = .returned (.bool r) ∧ Drawn0 w w' := by
 have H : (some (decide ((a0.size : Int) > 64))) = some r := h
 clear h
 obtain rfl := Option.some.inj H
 go_enter Tryd.func70, Tryd.ntmps70
 go_wp2
 go_ret
 exact ⟨by first | rfl | (simp; done) | (simp [*]; done), drs_⟩

/-! ### area_row: function 38 -/
def area_row.l0 : Nat → List (List ByteArray) → List ByteArray → List ByteArray → Int → Int → Option (List ByteArray × Int)
 | 0, _, _, _, _, _ => none
 | k + 1, x1, x6, x28, x29, x30 => if x30 < x29 then (if 0 ≤ x30 then (if x30 < (x28.length : Int) then ((area_row_1.f (rdOf ByteArray.empty x28 x30)).bind fun t210 => (if t210 = true then (some (([] : List ByteArray), 52)) else (area_row.l0 k x1 x6 x28 x29 (wrap64 (x30 + 1))))) else (none)) else (none)) else (if (x6.length : Int) = 0 then (some (([] : List ByteArray), 50)) else (if (x1.length : Int) > 0 then (if 0 < (x1.length : Int) then (if (x6.length : Int) = ((rd_L1 x1 0).length : Int) then (some (x6, 0)) else (some (([] : List ByteArray), 50))) else (none)) else (some (x6, 0))))
def area_row.f (k : Nat) (a0 : ByteArray) (l1 : List (List ByteArray)) : Option (List ByteArray × Int) := (area_Cells.f k a0).bind fun bt205 => (if bt205.2 = true then (if (l1.length : Int) ≥ 64 then (some (([] : List ByteArray), 52)) else (if (bt205.1.length : Int) > 64 then (some (([] : List ByteArray), 52)) else (area_row.l0 k l1 bt205.1 bt205.1 (bt205.1.length : Int) 0))) else (some (([] : List ByteArray), 50)))
theorem area_row.mono_l : ∀ k, (∀ y0 y1 y2 y3 y4, LeO (area_row.l0 k y0 y1 y2 y3 y4) (area_row.l0 (k + 1) y0 y1 y2 y3 y4))
 | 0 => fun _ _ _ _ _ r h => by simp [area_row.l0] at h
 | k + 1 => by
  have ih0 := area_row.mono_l k
  ·intro y0 y1 y2 y3 y4
   unfold area_row.l0
   repeat' first
   | (with_reducible exact ih0 _ _ _ _ _)
   | (with_reducible exact area_Cells.mono _ _)
   | (with_reducible exact LeO.refl _)
   | (with_reducible exact LeO.none _)
   | (with_reducible refine LeO.ite ?_ ?_)
   | (with_reducible refine LeO.bind ?_ (fun _ => ?_))
theorem area_row.mono : ∀ a0 a1 k, LeO (area_row.f k a0 a1) (area_row.f (k + 1) a0 a1) := by
 intro a0 a1 k
 have ih0 := area_row.mono_l k
 unfold area_row.f
 repeat' first
   | (with_reducible exact ih0 _ _ _ _ _)
   | (with_reducible exact area_Cells.mono _ _)
   | (with_reducible exact LeO.refl _)
   | (with_reducible exact LeO.none _)
   | (with_reducible refine LeO.ite ?_ ?_)
   | (with_reducible refine LeO.bind ?_ (fun _ => ?_))
set_option maxHeartbeats 8000000 in
set_option maxRecDepth 100000 in
theorem area_row.calls (k : Nat) (a0 : ByteArray) (A1 : Option Addr) (c1 : Nat) (l1 : List (List ByteArray)) (r1 : List ByteArray) (r2 : Int) (w : World) (hr1 : Kd.C (Kd.slice 9 Kd.string) w A1 l1.length l1) (hc1 : l1.length ≤ c1) (h : area_row.f k a0 l1 = some (r1, r2)) :
  Calls Tryd.prog 38 #[.string a0, .slice A1 l1.length c1] w fun e w' => ∃ v0_ : Value, e = .returned (.tuple #[v0_, .int .i64 r2]) ∧ Kd.R Kd.string 9 w' w.heap.size (fun _ => True) v0_ r1 ∧ Below w.heap.size w w' := by
 have HR1 := Aside0.mk hr1
 have HC1 := Aside0.mk hc1
 clear hr1 hc1
 have HB := Aside0.mk (Below.refl w.heap.size w)
 have H : ((area_Cells.f k a0).bind fun bt205 => (if bt205.2 = true then (if (l1.length : Int) ≥ 64 then (some (([] : List ByteArray), 52)) else (if (bt205.1.length : Int) > 64 then (some (([] : List ByteArray), 52)) else (area_row.l0 k l1 bt205.1 bt205.1 (bt205.1.length : Int) 0))) else (some (([] : List ByteArray), 50)))) = some (r1, r2) := h
 clear h
 replace H := Option.bind_eq_some_iff.mp H
 obtain ⟨⟨t205, t206⟩, A30, H⟩ := H
 try dsimp only at H
 have A3 := Aside0.mk A30
 clear A30
 by_cases c4 : t206 = true
 ·subst c4
  rw [if_pos rfl] at H
  by_cases c5 : (l1.length : Int) ≥ 64
  ·rw [if_pos c5] at H
   have c5b0 : decide (64 ≤ (l1.length : Int)) = true := decide_eq_true c5
   have c5b1 : decide (64 ≤ l1.length) = true := decide_eq_true (by omega)
   clear c5
   simp only [Option.some.injEq, Prod.mk.injEq] at H
   obtain ⟨rfl, rfl⟩ := H
   go_enter Tryd.func38, Tryd.ntmps38
   go_wp2_with (first | ((with_reducible refine gate_callee (f := 9) rfl ?_); refine goesL_ (some 13) rfl rfl Tryd.func9 (by kernel_rfl) rfl #[.string a0] rfl goa_ ?_; (with_reducible refine (area_Cells.calls k a0 t205 true _ A3.out).mono ?_); rintro e w6 ⟨v207, rfl, ho0, hb⟩; refine ⟨_, rfl, ?_⟩; have n0_ := Aside0.mk (Kd.R_lower ho0 (below_size bel_)); have n1_ := Aside0.mk (below_step bel_ hb); clear HB; have HO208 := n0_; have HB := n1_; clear n0_ n1_; (try clear hb); (try clear hb2); (try clear hk); (try clear hi); (try clear ho0)))
   go_ret2
   exact ⟨_, rsl_, by first | exact Kd.R_nil _ _ _ _ _ | exact Kd.N_nil _ _ _ _ _ | exact Kd.V_nil _ _ _ _ _ | exact Kd.Q_nil _ _ _ _ _ | exact Kd.S_nil _ _ _ _ _, bel_⟩
  ·rw [if_neg c5] at H
   have c5b0 : decide (64 ≤ (l1.length : Int)) = false := decide_eq_false c5
   have c5b1 : decide (64 ≤ l1.length) = false := decide_eq_false (by omega)
   clear c5
   by_cases c7 : (t205.length : Int) > 64
   ·rw [if_pos c7] at H
    have c7b0 : decide (64 < (t205.length : Int)) = true := decide_eq_true c7
    have c7b1 : decide (64 < t205.length) = true := decide_eq_true (by omega)
    clear c7
    simp only [Option.some.injEq, Prod.mk.injEq] at H
    obtain ⟨rfl, rfl⟩ := H
    go_enter Tryd.func38, Tryd.ntmps38
    go_wp2_with (first | ((with_reducible refine gate_callee (f := 9) rfl ?_); refine goesL_ (some 13) rfl rfl Tryd.func9 (by kernel_rfl) rfl #[.string a0] rfl goa_ ?_; (with_reducible refine (area_Cells.calls k a0 t205 true _ A3.out).mono ?_); rintro e w8 ⟨v207, rfl, ho0, hb⟩; refine ⟨_, rfl, ?_⟩; have n0_ := Aside0.mk (Kd.R_lower ho0 (below_size bel_)); have n1_ := Aside0.mk (below_step bel_ hb); clear HB; have HO208 := n0_; have HB := n1_; clear n0_ n1_; (try clear hb); (try clear hb2); (try clear hk); (try clear hi); (try clear ho0); obtain ⟨Ao9, co9, eo9⟩ := Kd.R_slice HO208.out; subst eo9))
    go_ret2
    exact ⟨_, rsl_, by first | exact Kd.R_nil _ _ _ _ _ | exact Kd.N_nil _ _ _ _ _ | exact Kd.V_nil _ _ _ _ _ | exact Kd.Q_nil _ _ _ _ _ | exact Kd.S_nil _ _ _ _ _, bel_⟩
   ·rw [if_neg c7] at H
    have c7b0 : decide (64 < (t205.length : Int)) = false := decide_eq_false c7
    have c7b1 : decide (64 < t205.length) = false := decide_eq_false (by omega)
    clear c7
    have H' := Aside0.mk H
    clear H
    go_enter Tryd.func38, Tryd.ntmps38
    go_wp2_with (first | ((with_reducible refine gate_callee (f := 9) rfl ?_); refine goesL_ (some 13) rfl rfl Tryd.func9 (by kernel_rfl) rfl #[.string a0] rfl goa_ ?_; (with_reducible refine (area_Cells.calls k a0 t205 true _ A3.out).mono ?_); rintro e w10 ⟨v207, rfl, ho0, hb⟩; refine ⟨_, rfl, ?_⟩; have n0_ := Aside0.mk (Kd.R_lower ho0 (below_size bel_)); have n1_ := Aside0.mk (below_step bel_ hb); clear HB; have HO208 := n0_; have HB := n1_; clear n0_ n1_; (try clear hb); (try clear hb2); (try clear hk); (try clear hi); (try clear ho0); obtain ⟨Ao11, co11, eo11⟩ := Kd.R_slice HO208.out; subst eo11))
    go_loopg [30] k (fun kq v30 w' => ∃ (x30_1 : Int), v30 = .int .i64 x30_1 ∧ Aside0 (area_row.l0 kq l1 t205 t205 (t205.length : Int) x30_1 = some (r1, r2)) ∧ Aside0 (kq ≤ k) ∧ Aside0 (Kd.R Kd.string 9 w' w.heap.size (fun _ => True) (.slice Ao11 t205.length co11) t205) ∧ Aside0 (Kd.R Kd.string 9 w' w.heap.size (fun _ => True) (.slice Ao11 t205.length co11) t205) ∧ Aside0 (Below w.heap.size w w'))
    case atStart => exact ⟨(0), rfs_, H', ⟨Nat.le_refl _⟩, ⟨by (with_reducible repeat (first | apply Kd.R_alloc | apply Kd.R_drewN | apply Kd.R_drew)); exact HO208.out⟩, ⟨by (with_reducible repeat (first | apply Kd.R_alloc | apply Kd.R_drewN | apply Kd.R_drew)); exact HO208.out⟩, ⟨bel_⟩⟩
    case round =>
     clear H'
     try clear c1
     try clear p2
     try clear c3
     try clear c4
     try clear c5
     try clear c5b0
     try clear c5b1
     try clear c7
     try clear c7b0
     try clear c7b1
     try clear c9
     obtain ⟨x30_1, rfl, HA, HK1, HO_6, HO_28, HB⟩ := hrel
     cases gk with
     | zero => exact absurd HA.out (by simp [area_row.l0])
     | succ k1 =>
      have H := HA.out
      clear HA
      simp only [area_row.l0] at H
      by_cases c12 : x30_1 < (t205.length : Int)
      ·rw [if_pos c12] at H
       have c12b0 : decide (x30_1 < (t205.length : Int)) = true := decide_eq_true c12
       clear c12
       by_cases c13 : 0 ≤ x30_1
       ·rw [if_pos c13] at H
        have c13b0 : decide (0 ≤ x30_1) = true := decide_eq_true c13
        clear c13
        by_cases c14 : x30_1 < (t205.length : Int)
        ·rw [if_pos c14] at H
         have c14b0 : decide (x30_1 < (t205.length : Int)) = true := decide_eq_true c14
         clear c14
         replace H := Option.bind_eq_some_iff.mp H
         obtain ⟨t210, A150, H⟩ := H
         try dsimp only at H
         have A15 := Aside0.mk A150
         clear A150
         by_cases c16 : t210 = true
         ·subst c16
          rw [if_pos rfl] at H
          simp only [Option.some.injEq, Prod.mk.injEq] at H
          obtain ⟨rfl, rfl⟩ := H
          have p209 : 0 ≤ (x30_1 : Int) := of_decide_eq_true (by first | (with_reducible assumption) | assumption)
          have q209 : x30_1 < (t205.length : Int) := of_decide_eq_true (by first | (with_reducible assumption) | assumption)
          obtain ⟨ad209, e209, hx209_0⟩ := Kd.at_string (Kd.R_reads' HO_28.out).2.2 x30_1 p209 q209
          cases e209
          replace p209 := eq_true p209
          replace q209 := eq_true q209
          go_wp2_with (first | (go_at_call 70; (with_reducible refine (area_row_1.calls (rdOf ByteArray.empty t205 x30_1) true _ A15.out).mono ?_); rintro e w' ⟨rfl, ⟨nd, rfl⟩⟩))
          go_ret2
          exact ⟨_, rsl_, by first | exact Kd.R_nil _ _ _ _ _ | exact Kd.N_nil _ _ _ _ _ | exact Kd.V_nil _ _ _ _ _ | exact Kd.Q_nil _ _ _ _ _ | exact Kd.S_nil _ _ _ _ _, bel_⟩
         ·replace c16 := Bool.eq_false_iff.mpr c16
          subst c16
          rw [if_neg (show ¬ (false = true) by decide)] at H
          have H' := Aside0.mk H
          clear H
          have p209 : 0 ≤ (x30_1 : Int) := of_decide_eq_true (by first | (with_reducible assumption) | assumption)
          have q209 : x30_1 < (t205.length : Int) := of_decide_eq_true (by first | (with_reducible assumption) | assumption)
          obtain ⟨ad209, e209, hx209_0⟩ := Kd.at_string (Kd.R_reads' HO_28.out).2.2 x30_1 p209 q209
          cases e209
          replace p209 := eq_true p209
          replace q209 := eq_true q209
          go_wp2_with (first | (go_at_call 70; (with_reducible refine (area_row_1.calls (rdOf ByteArray.empty t205 x30_1) false _ A15.out).mono ?_); rintro e w' ⟨rfl, ⟨nd, rfl⟩⟩))
          go_roundg k1
          case measure => have := HK1.out; omega
          case rel => exact ⟨(wrap64 (x30_1 + 1)), rfs_, H', ⟨by have := HK1.out; omega⟩, ⟨by (with_reducible repeat (first | apply Kd.R_alloc | apply Kd.R_drewN | apply Kd.R_drew)); exact HO_6.out⟩, ⟨by (with_reducible repeat (first | apply Kd.R_alloc | apply Kd.R_drewN | apply Kd.R_drew)); exact HO_28.out⟩, ⟨bel_⟩⟩
        ·rw [if_neg c14] at H
         exact absurd H (by simp)
       ·rw [if_neg c13] at H
        exact absurd H (by simp)
      ·rw [if_neg c12] at H
       have c12b0 : decide (x30_1 < (t205.length : Int)) = false := decide_eq_false c12
       clear c12
       by_cases c17 : (t205.length : Int) = 0
       ·rw [if_pos c17] at H
        have c17b0 : ((t205.length : Int) == 0) = true := beq_iff_eq.mpr c17
        have c17b1 : ((t205.length : Int) != 0) = false := bne_eq_false_iff_eq.mpr c17
        clear c17
        simp only [Option.some.injEq, Prod.mk.injEq] at H
        obtain ⟨rfl, rfl⟩ := H
        go_wp2
        go_ret2
        exact ⟨_, rsl_, by first | exact Kd.R_nil _ _ _ _ _ | exact Kd.N_nil _ _ _ _ _ | exact Kd.V_nil _ _ _ _ _ | exact Kd.Q_nil _ _ _ _ _ | exact Kd.S_nil _ _ _ _ _, bel_⟩
       ·rw [if_neg c17] at H
        have c17b0 : ((t205.length : Int) == 0) = false := beq_eq_false_iff_ne.mpr c17
        have c17b1 : ((t205.length : Int) != 0) = true := bne_iff_ne.mpr c17
        have c17b2 : ¬ (t205 = []) := fun h_ => c17 (by rw [h_]; rfl)
        by_cases c18 : (l1.length : Int) > 0
        ·rw [if_pos c18] at H
         have c18b0 : decide (0 < (l1.length : Int)) = true := decide_eq_true c18
         have c18b1 : decide (0 < l1.length) = true := decide_eq_true (by omega)
         clear c18
         by_cases c19 : 0 < (l1.length : Int)
         ·rw [if_pos c19] at H
          have c19b0 : decide (0 < (l1.length : Int)) = true := decide_eq_true c19
          have c19b1 : decide (0 < l1.length) = true := decide_eq_true (by omega)
          clear c19
          by_cases c20 : (t205.length : Int) = ((rd_L1 l1 0).length : Int)
          ·rw [if_pos c20] at H
           have c20b0 : ((t205.length : Int) == ((rd_L1 l1 0).length : Int)) = true := beq_iff_eq.mpr c20
           have c20b1 : ((t205.length : Int) != ((rd_L1 l1 0).length : Int)) = false := bne_eq_false_iff_eq.mpr c20
           have c20b2 : (t205.length == (rd_L1 l1 0).length) = true := by first | simpa using c20 | (simp at c20 ⊢; omega)
           clear c20
           simp only [Option.some.injEq, Prod.mk.injEq] at H
           obtain ⟨rfl, rfl⟩ := H
           have p211 : 0 ≤ (0 : Int) := (by omega)
           have q211 : 0 < (l1.length : Int) := of_decide_eq_true (by first | (with_reducible assumption) | assumption)
           obtain ⟨ad211, A211_0, c211_0, e211, hx211_0, hl211_0, hi211_0⟩ := at_L1 HR1.out 0 p211 q211
           cases e211
           have qi211 : (0 < l1.length) = True := eq_true (by omega)
           (try rw [show ((0 : Int)).toNat = 0 from rfl] at hx211_0)
           (try rw [Addr.add_zero'] at hx211_0)
           replace hx211_0 := (HB.out.cell (World.block_lt_of_cell? w _ hx211_0)).trans hx211_0
           have HR211_0 := Aside0.mk hi211_0
           have HC211_0 := Aside0.mk hl211_0
           clear hi211_0 hl211_0
           replace p211 := eq_true p211
           replace q211 := eq_true q211
           go_wp2
           go_ret2
           exact ⟨_, rsl_, by (with_reducible repeat (first | apply Kd.R_alloc | apply Kd.R_drewN | apply Kd.R_drew)); exact HO_6.out, bel_⟩
          ·rw [if_neg c20] at H
           have c20b0 : ((t205.length : Int) == ((rd_L1 l1 0).length : Int)) = false := beq_eq_false_iff_ne.mpr c20
           have c20b1 : ((t205.length : Int) != ((rd_L1 l1 0).length : Int)) = true := bne_iff_ne.mpr c20
           have c20b2 : (t205.length == (rd_L1 l1 0).length) = false := by first | simpa using c20 | (simp at c20 ⊢; omega)
           simp only [Option.some.injEq, Prod.mk.injEq] at H
           obtain ⟨rfl, rfl⟩ := H
           have p211 : 0 ≤ (0 : Int) := (by omega)
           have q211 : 0 < (l1.length : Int) := of_decide_eq_true (by first | (with_reducible assumption) | assumption)
           obtain ⟨ad211, A211_0, c211_0, e211, hx211_0, hl211_0, hi211_0⟩ := at_L1 HR1.out 0 p211 q211
           cases e211
           have qi211 : (0 < l1.length) = True := eq_true (by omega)
           (try rw [show ((0 : Int)).toNat = 0 from rfl] at hx211_0)
           (try rw [Addr.add_zero'] at hx211_0)
           replace hx211_0 := (HB.out.cell (World.block_lt_of_cell? w _ hx211_0)).trans hx211_0
           have HR211_0 := Aside0.mk hi211_0
           have HC211_0 := Aside0.mk hl211_0
           clear hi211_0 hl211_0
           replace p211 := eq_true p211
           replace q211 := eq_true q211
           go_wp2
           go_ret2
           exact ⟨_, rsl_, by first | exact Kd.R_nil _ _ _ _ _ | exact Kd.N_nil _ _ _ _ _ | exact Kd.V_nil _ _ _ _ _ | exact Kd.Q_nil _ _ _ _ _ | exact Kd.S_nil _ _ _ _ _, bel_⟩
         ·rw [if_neg c19] at H
          exact absurd H (by simp)
        ·rw [if_neg c18] at H
         have c18b0 : decide (0 < (l1.length : Int)) = false := decide_eq_false c18
         have c18b1 : decide (0 < l1.length) = false := decide_eq_false (by omega)
         clear c18
         simp only [Option.some.injEq, Prod.mk.injEq] at H
         obtain ⟨rfl, rfl⟩ := H
         go_wp2
         go_ret2
         exact ⟨_, rsl_, by (with_reducible repeat (first | apply Kd.R_alloc | apply Kd.R_drewN | apply Kd.R_drew)); exact HO_6.out, bel_⟩
 ·replace c4 := Bool.eq_false_iff.mpr c4
  subst c4
  rw [if_neg (show ¬ (false = true) by decide)] at H
  simp only [Option.some.injEq, Prod.mk.injEq] at H
  obtain ⟨rfl, rfl⟩ := H
  go_enter Tryd.func38, Tryd.ntmps38
  go_wp2_with (first | ((with_reducible refine gate_callee (f := 9) rfl ?_); refine goesL_ (some 13) rfl rfl Tryd.func9 (by kernel_rfl) rfl #[.string a0] rfl goa_ ?_; (with_reducible refine (area_Cells.calls k a0 t205 false _ A3.out).mono ?_); rintro e w21 ⟨v207, rfl, ho0, hb⟩; refine ⟨_, rfl, ?_⟩; have n0_ := Aside0.mk (Kd.R_lower ho0 (below_size bel_)); have n1_ := Aside0.mk (below_step bel_ hb); clear HB; have HO208 := n0_; have HB := n1_; clear n0_ n1_; (try clear hb); (try clear hb2); (try clear hk); (try clear hi); (try clear ho0)))
  go_ret2
  exact ⟨_, rsl_, by first | exact Kd.R_nil _ _ _ _ _ | exact Kd.N_nil _ _ _ _ _ | exact Kd.V_nil _ _ _ _ _ | exact Kd.Q_nil _ _ _ _ _ | exact Kd.S_nil _ _ _ _ _, bel_⟩

end Go.Proofs.YtofdhdafabmhmaaDoor.PAr
end
section
namespace Go.Proofs.YtofdhdafabmhmaaDoor.PAr
open Go.RowKit Go.Proofs.YtofdhdafabmhmaaDoorW.PrintWords Go.Proofs.YtofdhdafabmhmaaDoorW.PrintLast Go.Proofs.YtofdhdafabmhmaaDoorW.PrintMore
attribute [local go_sem] max2_int min2_int max_two min_two max_three min_three max_four min_four
open Go.Proofs.YtofdhdafabmhmaaDoor.Opn Go.Proofs.YtofdhdafabmhmaaDoor.Giv

attribute [local go_sem high] eqA33
/-! ### area_Read: function 17 -/
mutual
def area_Read.l0 : Nat → List (S67) → Int → List (List ByteArray) → Int → Option ((List (List ByteArray)) × Int × Int)
 | 0, _, _, _, _ => none
 | k + 1, x0, x1, x4, x5 => if x5 ≥ 0 then (if x5 < (x0.length : Int) then (if 0 ≤ x5 then (area_Read.j1 k x0 x1 x4 x5 (((rd_T67 x0 x5).f0) == 6)) else (none)) else (area_Read.j1 k x0 x1 x4 x5 false)) else (area_Read.j1 k x0 x1 x4 x5 false)
def area_Read.j1 : Nat → List (S67) → Int → List (List ByteArray) → Int → Bool → Option ((List (List ByteArray)) × Int × Int)
 | 0, _, _, _, _, _ => none
 | k + 1, x0, x1, x4, x5, x44 => if x44 = true then (if 0 ≤ x5 then (if x5 < (x0.length : Int) then ((area_row.f k ((rd_T67 x0 x5).f2) x4).bind fun bt219 => (if bt219.2 = 0 then (if x4.length < 5864062014805 then (area_Read.l0 k x0 x1 (x4 ++ [bt219.1]) (wrap64 (x5 + 1))) else (none)) else (some (([] : List (List ByteArray)), x5, bt219.2)))) else (none)) else (none)) else ((area_boxes.f k x4).bind fun bt226 => (if (x4.length : Int) = 0 then (some (([] : List (List ByteArray)), x1, 50)) else (if bt226.2 = true then (some (x4, x5, 0)) else (some (([] : List (List ByteArray)), x1, 50)))))
end
def area_Read.f (k : Nat) (l0 : List (S67)) (a1 : Int) : Option ((List (List ByteArray)) × Int × Int) := (value_Keyword.f k l0 a1 (([(⟨#[110, 111, 110, 101]⟩ : ByteArray), (⟨#[105, 110, 104, 101, 114, 105, 116]⟩ : ByteArray), (⟨#[105, 110, 105, 116, 105, 97, 108]⟩ : ByteArray), (⟨#[117, 110, 115, 101, 116]⟩ : ByteArray), (⟨#[114, 101, 118, 101, 114, 116]⟩ : ByteArray)] : List ByteArray))).bind fun bt215 => (if bt215.1 = 0 then (some (([] : List (List ByteArray)), bt215.2, 0)) else (if bt215.1 > 0 then (some (([] : List (List ByteArray)), a1, 51)) else (area_Read.l0 k l0 a1 ([] : List (List ByteArray)) a1)))
theorem area_Read.mono_l : ∀ k, (∀ y0 y1 y2 y3, LeO (area_Read.l0 k y0 y1 y2 y3) (area_Read.l0 (k + 1) y0 y1 y2 y3)) ∧ (∀ y0 y1 y2 y3 y4, LeO (area_Read.j1 k y0 y1 y2 y3 y4) (area_Read.j1 (k + 1) y0 y1 y2 y3 y4))
 | 0 => ⟨fun _ _ _ _ r h => by simp [area_Read.l0] at h, fun _ _ _ _ _ r h => by simp [area_Read.j1] at h⟩
 | k + 1 => by
  obtain ⟨ih0, ih1⟩ := area_Read.mono_l k
  refine ⟨?_, ?_⟩
  ·intro y0 y1 y2 y3
   unfold area_Read.l0
   repeat' first
   | (with_reducible exact ih0 _ _ _ _)
   | (with_reducible exact ih1 _ _ _ _ _)
   | (with_reducible exact area_boxes.mono _ _)
   | (with_reducible exact area_row.mono _ _ _)
   | (with_reducible exact value_Keyword.mono _ _ _ _)
   | (with_reducible exact LeO.refl _)
   | (with_reducible exact LeO.none _)
   | (with_reducible refine LeO.ite ?_ ?_)
   | (with_reducible refine LeO.bind ?_ (fun _ => ?_))
  ·intro y0 y1 y2 y3 y4
   unfold area_Read.j1
   repeat' first
   | (with_reducible exact ih0 _ _ _ _)
   | (with_reducible exact ih1 _ _ _ _ _)
   | (with_reducible exact area_boxes.mono _ _)
   | (with_reducible exact area_row.mono _ _ _)
   | (with_reducible exact value_Keyword.mono _ _ _ _)
   | (with_reducible exact LeO.refl _)
   | (with_reducible exact LeO.none _)
   | (with_reducible refine LeO.ite ?_ ?_)
   | (with_reducible refine LeO.bind ?_ (fun _ => ?_))
theorem area_Read.mono : ∀ a0 a1 k, LeO (area_Read.f k a0 a1) (area_Read.f (k + 1) a0 a1) := by
 intro a0 a1 k
 obtain ⟨ih0, ih1⟩ := area_Read.mono_l k
 unfold area_Read.f
 repeat' first
   | (with_reducible exact ih0 _ _ _ _)
   | (with_reducible exact ih1 _ _ _ _ _)
   | (with_reducible exact area_boxes.mono _ _)
   | (with_reducible exact area_row.mono _ _ _)
   | (with_reducible exact value_Keyword.mono _ _ _ _)
   | (with_reducible exact LeO.refl _)
   | (with_reducible exact LeO.none _)
   | (with_reducible refine LeO.ite ?_ ?_)
   | (with_reducible refine LeO.bind ?_ (fun _ => ?_))
set_option maxHeartbeats 8000000 in
set_option maxRecDepth 100000 in
theorem area_Read.calls (k : Nat) (A0 : Option Addr) (c0 : Nat) (l0 : List (S67)) (a1 : Int) (r1 : List (List ByteArray)) (r2 : Int) (r3 : Int) (w : World) (hr0 : Kd.C k67 w A0 l0.length l0) (hc0 : l0.length ≤ c0) (h : area_Read.f k l0 a1 = some (r1, r2, r3)) :
  Calls Tryd.prog 17 #[.slice A0 l0.length c0, .int .i64 a1] w fun e w' => ∃ v0_ : Value, e = .returned (.tuple #[v0_, .int .i64 r2, .int .i64 r3]) ∧ Kd.S (Kd.slice 9 Kd.string) 23 w' w.heap.size (fun _ => True) v0_ r1 ∧ Below w.heap.size w w' := by
 have HR0 := Aside0.mk hr0
 have HC0 := Aside0.mk hc0
 clear hr0 hc0
 have HB := Aside0.mk (Below.refl w.heap.size w)
 have H : ((value_Keyword.f k l0 a1 (([(⟨#[110, 111, 110, 101]⟩ : ByteArray), (⟨#[105, 110, 104, 101, 114, 105, 116]⟩ : ByteArray), (⟨#[105, 110, 105, 116, 105, 97, 108]⟩ : ByteArray), (⟨#[117, 110, 115, 101, 116]⟩ : ByteArray), (⟨#[114, 101, 118, 101, 114, 116]⟩ : ByteArray)] : List ByteArray))).bind fun bt215 => (if bt215.1 = 0 then (some (([] : List (List ByteArray)), bt215.2, 0)) else (if bt215.1 > 0 then (some (([] : List (List ByteArray)), a1, 51)) else (area_Read.l0 k l0 a1 ([] : List (List ByteArray)) a1)))) = some (r1, r2, r3) := h
 clear h
 obtain ⟨y212, hy212⟩ : ∃ y_ : List ByteArray, y_ = (([(⟨#[110, 111, 110, 101]⟩ : ByteArray), (⟨#[105, 110, 104, 101, 114, 105, 116]⟩ : ByteArray), (⟨#[105, 110, 105, 116, 105, 97, 108]⟩ : ByteArray), (⟨#[117, 110, 115, 101, 116]⟩ : ByteArray), (⟨#[114, 101, 118, 101, 114, 116]⟩ : ByteArray)] : List ByteArray)) := ⟨_, rfl⟩
 replace H : ((value_Keyword.f k l0 a1 y212).bind fun bt215 => (if bt215.1 = 0 then (some (([] : List (List ByteArray)), bt215.2, 0)) else (if bt215.1 > 0 then (some (([] : List (List ByteArray)), a1, 51)) else (area_Read.l0 k l0 a1 ([] : List (List ByteArray)) a1)))) = some (r1, r2, r3) := by first | (rw [hy212]; with_reducible exact H) | (have H2_ := (Option.bind_some _ _).symm.trans H; rw [hy212]; with_reducible exact H2_) | (have H2_ := (Option.bind_some _ _).symm.trans H; with_reducible exact H2_) | with_reducible exact H | (rw [hy212]; exact H) | exact H
 have Ny212 := Aside0.mk hy212
 clear hy212
 replace H := Option.bind_eq_some_iff.mp H
 obtain ⟨⟨t215, t216⟩, A30, H⟩ := H
 try dsimp only at H
 have A3 := Aside0.mk A30
 clear A30
 by_cases c4 : t215 = 0
 ·rw [if_pos c4] at H
  have c4b0 : (t215 == 0) = true := beq_iff_eq.mpr c4
  have c4b1 : (t215 != 0) = false := bne_eq_false_iff_eq.mpr c4
  clear c4
  simp only [Option.some.injEq, Prod.mk.injEq] at H
  obtain ⟨rfl, rfl, rfl⟩ := H
  go_enter Tryd.func17, Tryd.ntmps17
  go_wp2_with (first | ((with_reducible refine gate_dst (N := 16) rfl ?_); (try (refine gate_guard (by rfl) ?_; dsimp only)); refine Kd.R_lit Kd.string _ 9 ?hg (N := 16) ?hd (xs := ([(⟨#[110, 111, 110, 101]⟩ : ByteArray), (⟨#[105, 110, 104, 101, 114, 105, 116]⟩ : ByteArray), (⟨#[105, 110, 105, 116, 105, 97, 108]⟩ : ByteArray), (⟨#[117, 110, 115, 101, 116]⟩ : ByteArray), (⟨#[114, 101, 118, 101, 114, 116]⟩ : ByteArray)] : List ByteArray)) (inner := [.string (⟨#[110, 111, 110, 101]⟩ : ByteArray), .string (⟨#[105, 110, 104, 101, 114, 105, 116]⟩ : ByteArray), .string (⟨#[105, 110, 105, 116, 105, 97, 108]⟩ : ByteArray), .string (⟨#[117, 110, 115, 101, 116]⟩ : ByteArray), .string (⟨#[114, 101, 118, 101, 114, 116]⟩ : ByteArray)]) (ok := fun _ => True) (okp := fun _ => True) ?hr ?hp (fun _ hk => hk) trivial (Below.refl _ _) (Nat.le_refl _) (by simp) ?_; (case hd => rfl); (case hg => rfl); (case hr => first | (go_simp; done) | (go_simp; rfl)); (case hp => exact (Reps.one (show Kd.M Kd.string _ _ _ (⟨#[110, 111, 110, 101]⟩ : ByteArray) [.string (⟨#[110, 111, 110, 101]⟩ : ByteArray)] from rfl) (Reps.one (show Kd.M Kd.string _ _ _ (⟨#[105, 110, 104, 101, 114, 105, 116]⟩ : ByteArray) [.string (⟨#[105, 110, 104, 101, 114, 105, 116]⟩ : ByteArray)] from rfl) (Reps.one (show Kd.M Kd.string _ _ _ (⟨#[105, 110, 105, 116, 105, 97, 108]⟩ : ByteArray) [.string (⟨#[105, 110, 105, 116, 105, 97, 108]⟩ : ByteArray)] from rfl) (Reps.one (show Kd.M Kd.string _ _ _ (⟨#[117, 110, 115, 101, 116]⟩ : ByteArray) [.string (⟨#[117, 110, 115, 101, 116]⟩ : ByteArray)] from rfl) (Reps.one (show Kd.M Kd.string _ _ _ (⟨#[114, 101, 118, 101, 114, 116]⟩ : ByteArray) [.string (⟨#[114, 101, 118, 101, 114, 116]⟩ : ByteArray)] from rfl) (Reps.none _ _))))))); intro v213 w5 ho6 hb hg_ hnew_; clear hg_ hnew_; (first | rw [← Ny212.out] at ho6 | (simp only [Int.reduceToNat] at ho6; rw [← Ny212.out] at ho6)); have n0_ := Aside0.mk (Kd.R_lower ho6 (below_size bel_)); have n1_ := Aside0.mk (below_step bel_ hb); clear HB; have HO214 := n0_; have HB := n1_; clear n0_ n1_; clear hb ho6; obtain ⟨Ao7, co7, eo7⟩ := Kd.R_slice HO214.out; subst eo7) | ((with_reducible refine gate_callee (f := 37) rfl ?_); refine goesL_ (some 17) rfl rfl Tryd.func37 (by kernel_rfl) rfl #[.slice A0 l0.length c0, .int .i64 a1, .slice Ao7 y212.length co7] rfl goa_ ?_; (with_reducible refine (value_Keyword.calls k _ _ l0 a1 _ _ y212 t215 t216 _ ?side1 ?side2 ?side3 ?side4 A3.out).mono ?_); (case side1 => repeat (first | exact (Kd.C_below HR0.out HB.out) | (with_reducible refine Kd.C_alloc ?_ _) | (with_reducible refine Kd.C_drewN ?_ _) | (with_reducible refine Kd.C_drew ?_))); (case side2 => exact HC0.out); (case side3 => repeat (first | exact (Kd.R_reads' HO214.out).2.2 | (with_reducible refine Kd.C_alloc ?_ _) | (with_reducible refine Kd.C_drewN ?_ _) | (with_reducible refine Kd.C_drew ?_))); (case side4 => exact (Kd.R_reads' HO214.out).2.1); rintro e w8 ⟨rfl, hb⟩; refine ⟨_, rfl, ?_⟩; have n0_ := Aside0.mk (Kd.R_below (by (with_reducible repeat (first | apply Kd.R_alloc | apply Kd.R_drewN | apply Kd.R_drew)); exact HO214.out) hb); have n1_ := Aside0.mk (below_step bel_ hb); clear HO214; clear HB; have HO214 := n0_; have HB := n1_; clear n0_ n1_; clear hb))
  go_ret3
  exact ⟨_, rsl_, by first | exact Kd.S_nil _ _ _ _ _ | exact Kd.N_nil _ _ _ _ _ | exact Kd.V_nil _ _ _ _ _ | exact Kd.Q_nil _ _ _ _ _ | exact Kd.R_nil _ _ _ _ _, bel_⟩
 ·rw [if_neg c4] at H
  have c4b0 : (t215 == 0) = false := beq_eq_false_iff_ne.mpr c4
  have c4b1 : (t215 != 0) = true := bne_iff_ne.mpr c4
  by_cases c9 : t215 > 0
  ·rw [if_pos c9] at H
   have c9b0 : decide (0 < t215) = true := decide_eq_true c9
   clear c9
   simp only [Option.some.injEq, Prod.mk.injEq] at H
   obtain ⟨rfl, rfl, rfl⟩ := H
   go_enter Tryd.func17, Tryd.ntmps17
   go_wp2_with (first | ((with_reducible refine gate_dst (N := 16) rfl ?_); (try (refine gate_guard (by rfl) ?_; dsimp only)); refine Kd.R_lit Kd.string _ 9 ?hg (N := 16) ?hd (xs := ([(⟨#[110, 111, 110, 101]⟩ : ByteArray), (⟨#[105, 110, 104, 101, 114, 105, 116]⟩ : ByteArray), (⟨#[105, 110, 105, 116, 105, 97, 108]⟩ : ByteArray), (⟨#[117, 110, 115, 101, 116]⟩ : ByteArray), (⟨#[114, 101, 118, 101, 114, 116]⟩ : ByteArray)] : List ByteArray)) (inner := [.string (⟨#[110, 111, 110, 101]⟩ : ByteArray), .string (⟨#[105, 110, 104, 101, 114, 105, 116]⟩ : ByteArray), .string (⟨#[105, 110, 105, 116, 105, 97, 108]⟩ : ByteArray), .string (⟨#[117, 110, 115, 101, 116]⟩ : ByteArray), .string (⟨#[114, 101, 118, 101, 114, 116]⟩ : ByteArray)]) (ok := fun _ => True) (okp := fun _ => True) ?hr ?hp (fun _ hk => hk) trivial (Below.refl _ _) (Nat.le_refl _) (by simp) ?_; (case hd => rfl); (case hg => rfl); (case hr => first | (go_simp; done) | (go_simp; rfl)); (case hp => exact (Reps.one (show Kd.M Kd.string _ _ _ (⟨#[110, 111, 110, 101]⟩ : ByteArray) [.string (⟨#[110, 111, 110, 101]⟩ : ByteArray)] from rfl) (Reps.one (show Kd.M Kd.string _ _ _ (⟨#[105, 110, 104, 101, 114, 105, 116]⟩ : ByteArray) [.string (⟨#[105, 110, 104, 101, 114, 105, 116]⟩ : ByteArray)] from rfl) (Reps.one (show Kd.M Kd.string _ _ _ (⟨#[105, 110, 105, 116, 105, 97, 108]⟩ : ByteArray) [.string (⟨#[105, 110, 105, 116, 105, 97, 108]⟩ : ByteArray)] from rfl) (Reps.one (show Kd.M Kd.string _ _ _ (⟨#[117, 110, 115, 101, 116]⟩ : ByteArray) [.string (⟨#[117, 110, 115, 101, 116]⟩ : ByteArray)] from rfl) (Reps.one (show Kd.M Kd.string _ _ _ (⟨#[114, 101, 118, 101, 114, 116]⟩ : ByteArray) [.string (⟨#[114, 101, 118, 101, 114, 116]⟩ : ByteArray)] from rfl) (Reps.none _ _))))))); intro v213 w10 ho11 hb hg_ hnew_; clear hg_ hnew_; (first | rw [← Ny212.out] at ho11 | (simp only [Int.reduceToNat] at ho11; rw [← Ny212.out] at ho11)); have n0_ := Aside0.mk (Kd.R_lower ho11 (below_size bel_)); have n1_ := Aside0.mk (below_step bel_ hb); clear HB; have HO214 := n0_; have HB := n1_; clear n0_ n1_; clear hb ho11; obtain ⟨Ao12, co12, eo12⟩ := Kd.R_slice HO214.out; subst eo12) | ((with_reducible refine gate_callee (f := 37) rfl ?_); refine goesL_ (some 17) rfl rfl Tryd.func37 (by kernel_rfl) rfl #[.slice A0 l0.length c0, .int .i64 a1, .slice Ao12 y212.length co12] rfl goa_ ?_; (with_reducible refine (value_Keyword.calls k _ _ l0 a1 _ _ y212 t215 t216 _ ?side1 ?side2 ?side3 ?side4 A3.out).mono ?_); (case side1 => repeat (first | exact (Kd.C_below HR0.out HB.out) | (with_reducible refine Kd.C_alloc ?_ _) | (with_reducible refine Kd.C_drewN ?_ _) | (with_reducible refine Kd.C_drew ?_))); (case side2 => exact HC0.out); (case side3 => repeat (first | exact (Kd.R_reads' HO214.out).2.2 | (with_reducible refine Kd.C_alloc ?_ _) | (with_reducible refine Kd.C_drewN ?_ _) | (with_reducible refine Kd.C_drew ?_))); (case side4 => exact (Kd.R_reads' HO214.out).2.1); rintro e w13 ⟨rfl, hb⟩; refine ⟨_, rfl, ?_⟩; have n0_ := Aside0.mk (Kd.R_below (by (with_reducible repeat (first | apply Kd.R_alloc | apply Kd.R_drewN | apply Kd.R_drew)); exact HO214.out) hb); have n1_ := Aside0.mk (below_step bel_ hb); clear HO214; clear HB; have HO214 := n0_; have HB := n1_; clear n0_ n1_; clear hb))
   go_ret3
   exact ⟨_, rsl_, by first | exact Kd.S_nil _ _ _ _ _ | exact Kd.N_nil _ _ _ _ _ | exact Kd.V_nil _ _ _ _ _ | exact Kd.Q_nil _ _ _ _ _ | exact Kd.R_nil _ _ _ _ _, bel_⟩
  ·rw [if_neg c9] at H
   have c9b0 : decide (0 < t215) = false := decide_eq_false c9
   clear c9
   have H' := Aside0.mk H
   clear H
   go_enter Tryd.func17, Tryd.ntmps17
   go_wp2_with (first | ((with_reducible refine gate_dst (N := 16) rfl ?_); (try (refine gate_guard (by rfl) ?_; dsimp only)); refine Kd.R_lit Kd.string _ 9 ?hg (N := 16) ?hd (xs := ([(⟨#[110, 111, 110, 101]⟩ : ByteArray), (⟨#[105, 110, 104, 101, 114, 105, 116]⟩ : ByteArray), (⟨#[105, 110, 105, 116, 105, 97, 108]⟩ : ByteArray), (⟨#[117, 110, 115, 101, 116]⟩ : ByteArray), (⟨#[114, 101, 118, 101, 114, 116]⟩ : ByteArray)] : List ByteArray)) (inner := [.string (⟨#[110, 111, 110, 101]⟩ : ByteArray), .string (⟨#[105, 110, 104, 101, 114, 105, 116]⟩ : ByteArray), .string (⟨#[105, 110, 105, 116, 105, 97, 108]⟩ : ByteArray), .string (⟨#[117, 110, 115, 101, 116]⟩ : ByteArray), .string (⟨#[114, 101, 118, 101, 114, 116]⟩ : ByteArray)]) (ok := fun _ => True) (okp := fun _ => True) ?hr ?hp (fun _ hk => hk) trivial (Below.refl _ _) (Nat.le_refl _) (by simp) ?_; (case hd => rfl); (case hg => rfl); (case hr => first | (go_simp; done) | (go_simp; rfl)); (case hp => exact (Reps.one (show Kd.M Kd.string _ _ _ (⟨#[110, 111, 110, 101]⟩ : ByteArray) [.string (⟨#[110, 111, 110, 101]⟩ : ByteArray)] from rfl) (Reps.one (show Kd.M Kd.string _ _ _ (⟨#[105, 110, 104, 101, 114, 105, 116]⟩ : ByteArray) [.string (⟨#[105, 110, 104, 101, 114, 105, 116]⟩ : ByteArray)] from rfl) (Reps.one (show Kd.M Kd.string _ _ _ (⟨#[105, 110, 105, 116, 105, 97, 108]⟩ : ByteArray) [.string (⟨#[105, 110, 105, 116, 105, 97, 108]⟩ : ByteArray)] from rfl) (Reps.one (show Kd.M Kd.string _ _ _ (⟨#[117, 110, 115, 101, 116]⟩ : ByteArray) [.string (⟨#[117, 110, 115, 101, 116]⟩ : ByteArray)] from rfl) (Reps.one (show Kd.M Kd.string _ _ _ (⟨#[114, 101, 118, 101, 114, 116]⟩ : ByteArray) [.string (⟨#[114, 101, 118, 101, 114, 116]⟩ : ByteArray)] from rfl) (Reps.none _ _))))))); intro v213 w14 ho15 hb hg_ hnew_; clear hg_ hnew_; (first | rw [← Ny212.out] at ho15 | (simp only [Int.reduceToNat] at ho15; rw [← Ny212.out] at ho15)); have n0_ := Aside0.mk (Kd.R_lower ho15 (below_size bel_)); have n1_ := Aside0.mk (below_step bel_ hb); clear HB; have HO214 := n0_; have HB := n1_; clear n0_ n1_; clear hb ho15; obtain ⟨Ao16, co16, eo16⟩ := Kd.R_slice HO214.out; subst eo16) | ((with_reducible refine gate_callee (f := 37) rfl ?_); refine goesL_ (some 17) rfl rfl Tryd.func37 (by kernel_rfl) rfl #[.slice A0 l0.length c0, .int .i64 a1, .slice Ao16 y212.length co16] rfl goa_ ?_; (with_reducible refine (value_Keyword.calls k _ _ l0 a1 _ _ y212 t215 t216 _ ?side1 ?side2 ?side3 ?side4 A3.out).mono ?_); (case side1 => repeat (first | exact (Kd.C_below HR0.out HB.out) | (with_reducible refine Kd.C_alloc ?_ _) | (with_reducible refine Kd.C_drewN ?_ _) | (with_reducible refine Kd.C_drew ?_))); (case side2 => exact HC0.out); (case side3 => repeat (first | exact (Kd.R_reads' HO214.out).2.2 | (with_reducible refine Kd.C_alloc ?_ _) | (with_reducible refine Kd.C_drewN ?_ _) | (with_reducible refine Kd.C_drew ?_))); (case side4 => exact (Kd.R_reads' HO214.out).2.1); rintro e w17 ⟨rfl, hb⟩; refine ⟨_, rfl, ?_⟩; have n0_ := Aside0.mk (Kd.R_below (by (with_reducible repeat (first | apply Kd.R_alloc | apply Kd.R_drewN | apply Kd.R_drew)); exact HO214.out) hb); have n1_ := Aside0.mk (below_step bel_ hb); clear HO214; clear HB; have HO214 := n0_; have HB := n1_; clear n0_ n1_; clear hb))
   go_loopg [4, 5] k (fun kq v4 v5 w' => ∃ (x4_1 : List (List ByteArray)) (x5_1 : Int), v5 = .int .i64 x5_1 ∧ Aside0 (area_Read.l0 kq l0 a1 x4_1 x5_1 = some (r1, r2, r3)) ∧ Aside0 (kq ≤ k) ∧ Aside0 (Kd.S (Kd.slice 9 Kd.string) 23 w' w.heap.size (fun _ => True) v4 x4_1) ∧ Aside0 (Below w.heap.size w w'))
   case atStart => exact ⟨(([] : List (List ByteArray))), (a1), rfs_, H', ⟨Nat.le_refl _⟩, ⟨by first | exact Kd.S_nil _ _ _ _ _ | exact Kd.N_nil _ _ _ _ _ | exact Kd.V_nil _ _ _ _ _ | exact Kd.Q_nil _ _ _ _ _ | exact Kd.R_nil _ _ _ _ _⟩, ⟨bel_⟩⟩
   case round =>
    clear H'
    try clear c1
    try clear p2
    try clear c3
    try clear c4
    try clear c4b0
    try clear c4b1
    try clear c9
    try clear c9b0
    try clear c17
    obtain ⟨x4_1, x5_1, rfl, HA, HK1, HO_4, HB⟩ := hrel
    cases gk with
    | zero => exact absurd HA.out (by simp [area_Read.l0])
    | succ k1 =>
     have H := HA.out
     clear HA
     simp only [area_Read.l0] at H
     have HC18 := Aside0.mk H
     clear H
     go_upto_region 7 with (fail)
     go_cut [44] (fun v44 wc => ∃ (kq : Nat) (x44_17 : Bool), v44 = .bool x44_17 ∧ Aside0 (area_Read.j1 kq l0 a1 x4_1 x5_1 x44_17 = some (r1, r2, r3)) ∧ Aside0 (kq ≤ k1) ∧ Aside0 (Kd.S (Kd.slice 9 Kd.string) 23 wc w.heap.size (fun _ => True) u4 x4_1) ∧ Aside0 (Below w.heap.size w wc))
     case first =>
      have H := HC18.out
      clear HC18
      by_cases c19 : x5_1 ≥ 0
      ·rw [if_pos c19] at H
       have c19b0 : decide (0 ≤ x5_1) = true := decide_eq_true c19
       clear c19
       (first | rw [c19b0] | (simp only [i64_w, i32_w]; rw [c19b0]) | skip)
       by_cases c20 : x5_1 < (l0.length : Int)
       ·rw [if_pos c20] at H
        have c20b0 : decide (x5_1 < (l0.length : Int)) = true := decide_eq_true c20
        clear c20
        by_cases c21 : 0 ≤ x5_1
        ·rw [if_pos c21] at H
         have c21b0 : decide (0 ≤ x5_1) = true := decide_eq_true c21
         clear c21
         have H' := Aside0.mk H
         clear H
         have p217 : 0 ≤ (x5_1 : Int) := of_decide_eq_true (by first | (with_reducible assumption) | assumption)
         have q217 : x5_1 < (l0.length : Int) := of_decide_eq_true (by first | (with_reducible assumption) | assumption)
         obtain ⟨ad217, e217, hx217_0, hx217_1, hx217_2, hx217_3⟩ := at_T67 HR0.out x5_1 p217 q217
         cases e217
         replace hx217_0 := (HB.out.cell (World.block_lt_of_cell? w _ hx217_0)).trans hx217_0
         replace hx217_1 := (HB.out.cell (World.block_lt_of_cell? w _ hx217_1)).trans hx217_1
         replace hx217_2 := (HB.out.cell (World.block_lt_of_cell? w _ hx217_2)).trans hx217_2
         replace hx217_3 := (HB.out.cell (World.block_lt_of_cell? w _ hx217_3)).trans hx217_3
         replace p217 := eq_true p217
         replace q217 := eq_true q217
         go_wp2
         go_meet
         case rel => exact ⟨_, ((((rd_T67 l0 x5_1).f0) == 6)), rfs_, H', ⟨by have := HK1.out; first | omega | exact Nat.le_refl _⟩, ⟨by (with_reducible repeat (first | apply Kd.S_alloc | apply Kd.S_drewN | apply Kd.S_drew)); exact HO_4.out⟩, ⟨bel_⟩⟩
        ·rw [if_neg c21] at H
         exact absurd H (by simp)
       ·rw [if_neg c20] at H
        have c20b0 : decide (x5_1 < (l0.length : Int)) = false := decide_eq_false c20
        clear c20
        have H' := Aside0.mk H
        clear H
        go_wp2
        go_meet
        case rel => exact ⟨_, (false), rfs_, H', ⟨by have := HK1.out; first | omega | exact Nat.le_refl _⟩, ⟨by (with_reducible repeat (first | apply Kd.S_alloc | apply Kd.S_drewN | apply Kd.S_drew)); exact HO_4.out⟩, ⟨bel_⟩⟩
      ·rw [if_neg c19] at H
       have c19b0 : decide (0 ≤ x5_1) = false := decide_eq_false c19
       clear c19
       (first | rw [c19b0] | (simp only [i64_w, i32_w]; rw [c19b0]) | skip)
       have H' := Aside0.mk H
       clear H
       go_wp2
       go_meet
       case rel => exact ⟨_, (false), rfs_, H', ⟨by have := HK1.out; first | omega | exact Nat.le_refl _⟩, ⟨by (with_reducible repeat (first | apply Kd.S_alloc | apply Kd.S_drewN | apply Kd.S_drew)); exact HO_4.out⟩, ⟨bel_⟩⟩
     case rest =>
      clear HC18
      try clear c1
      try clear c2
      try clear p2
      try clear q2
      try clear hx2
      try clear c3
      try clear c4
      try clear c4b0
      try clear c4b1
      try clear c9
      try clear c9b0
      try clear c17
      try clear c19
      try clear c19b0
      try clear c20
      try clear c20b0
      try clear c21
      try clear c21b0
      try clear p21
      try clear q21
      try clear hx21
      try clear hx217_0
      try clear hx217_1
      try clear hx217_2
      try clear hx217_3
      try clear p2
      try clear p217
      try clear q217
      obtain ⟨kq, x44_17, rfl, HA, HJ17, HO_4, HB⟩ := hcut
      cases kq with
      | zero => exact absurd HA.out (by simp [area_Read.j1])
      | succ kj17 =>
       have H := HA.out
       clear HA
       simp only [area_Read.j1] at H
       by_cases c22 : x44_17 = true
       ·subst c22
        rw [if_pos rfl] at H
        by_cases c23 : 0 ≤ x5_1
        ·rw [if_pos c23] at H
         have c23b0 : decide (0 ≤ x5_1) = true := decide_eq_true c23
         clear c23
         by_cases c24 : x5_1 < (l0.length : Int)
         ·rw [if_pos c24] at H
          have c24b0 : decide (x5_1 < (l0.length : Int)) = true := decide_eq_true c24
          clear c24
          replace H := Option.bind_eq_some_iff.mp H
          obtain ⟨⟨t219, t220⟩, A250, H⟩ := H
          try dsimp only at H
          have A25 := Aside0.mk A250
          clear A250
          by_cases c26 : t220 = 0
          ·rw [if_pos c26] at H
           have c26b0 : (t220 == 0) = true := beq_iff_eq.mpr c26
           have c26b1 : (t220 != 0) = false := bne_eq_false_iff_eq.mpr c26
           clear c26
           by_cases c27 : x4_1.length < 5864062014805
           ·rw [if_pos c27] at H
            have LMc27 := Aside0.mk c27
            clear c27
            obtain ⟨y223, hy223⟩ : ∃ y_ : List (List ByteArray), y_ = (x4_1 ++ [t219]) := ⟨_, rfl⟩
            replace H : (area_Read.l0 kj17 l0 a1 y223 (wrap64 (x5_1 + 1))) = some (r1, r2, r3) := by first | (rw [hy223]; with_reducible exact H) | (have H2_ := (Option.bind_some _ _).symm.trans H; rw [hy223]; with_reducible exact H2_) | (have H2_ := (Option.bind_some _ _).symm.trans H; with_reducible exact H2_) | with_reducible exact H | (rw [hy223]; exact H) | exact H
            have Ny223 := Aside0.mk hy223
            clear hy223
            have H' := Aside0.mk H
            clear H
            have p218 : 0 ≤ (x5_1 : Int) := of_decide_eq_true (by first | (with_reducible assumption) | assumption)
            have q218 : x5_1 < (l0.length : Int) := of_decide_eq_true (by first | (with_reducible assumption) | assumption)
            obtain ⟨ad218, e218, hx218_0, hx218_1, hx218_2, hx218_3⟩ := at_T67 HR0.out x5_1 p218 q218
            cases e218
            replace hx218_0 := (HB.out.cell (World.block_lt_of_cell? w _ hx218_0)).trans hx218_0
            replace hx218_1 := (HB.out.cell (World.block_lt_of_cell? w _ hx218_1)).trans hx218_1
            replace hx218_2 := (HB.out.cell (World.block_lt_of_cell? w _ hx218_2)).trans hx218_2
            replace hx218_3 := (HB.out.cell (World.block_lt_of_cell? w _ hx218_3)).trans hx218_3
            replace p218 := eq_true p218
            replace q218 := eq_true q218
            obtain ⟨Ao28, co28, eo28⟩ := Kd.S_slice HO_4.out
            subst eo28
            go_wp2_with (first | ((with_reducible refine gate_callee (f := 38) rfl ?_); refine goesL_ (some 54) rfl rfl Tryd.func38 (by kernel_rfl) rfl #[.string ((rd_T67 l0 x5_1).f2), .slice Ao28 x4_1.length co28] rfl goa_ ?_; (with_reducible refine (area_row.calls kj17 ((rd_T67 l0 x5_1).f2) _ _ x4_1 t219 t220 _ ?side1 ?side2 A25.out).mono ?_); (case side1 => repeat (first | exact (Kd.S_reads' HO_4.out).2.2 | (with_reducible refine Kd.C_alloc ?_ _) | (with_reducible refine Kd.C_drewN ?_ _) | (with_reducible refine Kd.C_drew ?_))); (case side2 => exact (Kd.S_reads' HO_4.out).2.1); rintro e w29 ⟨v221, rfl, ho0, hb⟩; refine ⟨_, rfl, ?_⟩; have n0_ := Aside0.mk (Kd.S_elder' (by (with_reducible repeat (first | apply Kd.S_alloc | apply Kd.S_drewN | apply Kd.S_drew)); exact HO_4.out) (Kd.R_base ho0) hb); have n1_ := Aside0.mk (Kd.R_lower ho0 (below_size bel_)); have n2_ := Aside0.mk (below_step bel_ hb); clear HO_4; clear HB; have HO_4 := n0_; have HO222 := n1_; have HB := n2_; clear n0_ n1_ n2_; (try clear hb); (try clear hb2); (try clear hk); (try clear hi); (try clear ho0); obtain ⟨Ao31, co31, eo31⟩ := Kd.R_slice HO222.out; subst eo31) | ((with_reducible refine gate_builtin (b := .append) (xs := #[.tmp 61, .tmp 63]) rfl ?_); (try (refine gate_guard (by rfl) ?_; dsimp only)); at_builtin; refine Kd.S_append (Kd.slice 9 Kd.string) (w0 := w) w.heap.size rfl (.tmp 61) (.tmp 63) 27 23 (.slice none 0 0) 24 rfl Tryd.underlying27 info23 rfl (by decide) (by omega) (.slice Ao28 x4_1.length co28) x4_1 t219 [.slice Ao31 t219.length co31] (fun _ => True) (fun k_ => some k_ = (.slice Ao31 t219.length co31 : Value).ownBlock) rfl rfl ?aP (fun k_ hk_ => ((Kd.R_mono (ok' := fun k_ => ((fun _ => True)) k_ ∧ some k_ ≠ (.slice Ao28 x4_1.length co28 : Value).ownBlock) (Kd.R_apart' (HO222.out) (Kd.S_typed HO_4.out) (by decide)) (fun k_ hk => ⟨trivial, hk.2⟩))).1 k_ hk_.symm) ?aF ?aO ?aB ?aS ?aL ?_; (case aP => exact Kd.M_row (Kd.R_mono (Kd.R_tight rfl (Kd.R_mono (ok' := fun k_ => ((fun _ => True)) k_ ∧ some k_ ≠ (.slice Ao28 x4_1.length co28 : Value).ownBlock) (Kd.R_apart' (HO222.out) (Kd.S_typed HO_4.out) (by decide)) (fun k_ hk => ⟨trivial, hk.2⟩))) (fun _ h_ => h_))); (case aB => exact bel_); (case aF => exact (fun _ _ => trivial)); (case aO => exact (by (with_reducible repeat (first | apply Kd.S_alloc | apply Kd.S_drewN | apply Kd.S_drew)); exact Kd.S_mono HO_4.out (fun k_ hk => ⟨trivial, fun e_ => hk.2 e_⟩))); (case aS => exact (below_size bel_)); (case aL => have := LMc27.out; omega); intro v224 w30 ho hb hg hat; rw [← Ny223.out] at ho; have n0_ := Aside0.mk (hb); have n1_ := Aside0.mk (ho); clear HB; clear HO_4; clear HO222; have HB := n0_; have HO225 := n1_; clear n0_ n1_; clear ho hb hg hat))
            go_roundg kj17
            case measure => have := HK1.out; have := HJ17.out; omega
            case rel => exact ⟨(y223), (wrap64 (x5_1 + 1)), rfs_, H', ⟨by have := HK1.out; have := HJ17.out; omega⟩, ⟨by (with_reducible repeat (first | apply Kd.S_alloc | apply Kd.S_drewN | apply Kd.S_drew)); exact HO225.out⟩, ⟨bel_⟩⟩
           ·rw [if_neg c27] at H
            exact absurd H (by simp)
          ·rw [if_neg c26] at H
           have c26b0 : (t220 == 0) = false := beq_eq_false_iff_ne.mpr c26
           have c26b1 : (t220 != 0) = true := bne_iff_ne.mpr c26
           simp only [Option.some.injEq, Prod.mk.injEq] at H
           obtain ⟨rfl, rfl, rfl⟩ := H
           have p218 : 0 ≤ (x5_1 : Int) := of_decide_eq_true (by first | (with_reducible assumption) | assumption)
           have q218 : x5_1 < (l0.length : Int) := of_decide_eq_true (by first | (with_reducible assumption) | assumption)
           obtain ⟨ad218, e218, hx218_0, hx218_1, hx218_2, hx218_3⟩ := at_T67 HR0.out x5_1 p218 q218
           cases e218
           replace hx218_0 := (HB.out.cell (World.block_lt_of_cell? w _ hx218_0)).trans hx218_0
           replace hx218_1 := (HB.out.cell (World.block_lt_of_cell? w _ hx218_1)).trans hx218_1
           replace hx218_2 := (HB.out.cell (World.block_lt_of_cell? w _ hx218_2)).trans hx218_2
           replace hx218_3 := (HB.out.cell (World.block_lt_of_cell? w _ hx218_3)).trans hx218_3
           replace p218 := eq_true p218
           replace q218 := eq_true q218
           obtain ⟨Ao32, co32, eo32⟩ := Kd.S_slice HO_4.out
           subst eo32
           go_wp2_with (first | ((with_reducible refine gate_callee (f := 38) rfl ?_); refine goesL_ (some 54) rfl rfl Tryd.func38 (by kernel_rfl) rfl #[.string ((rd_T67 l0 x5_1).f2), .slice Ao32 x4_1.length co32] rfl goa_ ?_; (with_reducible refine (area_row.calls kj17 ((rd_T67 l0 x5_1).f2) _ _ x4_1 t219 t220 _ ?side1 ?side2 A25.out).mono ?_); (case side1 => repeat (first | exact (Kd.S_reads' HO_4.out).2.2 | (with_reducible refine Kd.C_alloc ?_ _) | (with_reducible refine Kd.C_drewN ?_ _) | (with_reducible refine Kd.C_drew ?_))); (case side2 => exact (Kd.S_reads' HO_4.out).2.1); rintro e w33 ⟨v221, rfl, ho0, hb⟩; refine ⟨_, rfl, ?_⟩; have n0_ := Aside0.mk (Kd.S_elder' (by (with_reducible repeat (first | apply Kd.S_alloc | apply Kd.S_drewN | apply Kd.S_drew)); exact HO_4.out) (Kd.R_base ho0) hb); have n1_ := Aside0.mk (Kd.R_lower ho0 (below_size bel_)); have n2_ := Aside0.mk (below_step bel_ hb); clear HO_4; clear HB; have HO_4 := n0_; have HO222 := n1_; have HB := n2_; clear n0_ n1_ n2_; (try clear hb); (try clear hb2); (try clear hk); (try clear hi); (try clear ho0)))
           go_ret3
           exact ⟨_, rsl_, by first | exact Kd.S_nil _ _ _ _ _ | exact Kd.N_nil _ _ _ _ _ | exact Kd.V_nil _ _ _ _ _ | exact Kd.Q_nil _ _ _ _ _ | exact Kd.R_nil _ _ _ _ _, bel_⟩
         ·rw [if_neg c24] at H
          exact absurd H (by simp)
        ·rw [if_neg c23] at H
         exact absurd H (by simp)
       ·replace c22 := Bool.eq_false_iff.mpr c22
        subst c22
        rw [if_neg (show ¬ (false = true) by decide)] at H
        replace H := Option.bind_eq_some_iff.mp H
        obtain ⟨⟨t226, t227⟩, A340, H⟩ := H
        try dsimp only at H
        have A34 := Aside0.mk A340
        clear A340
        by_cases c35 : (x4_1.length : Int) = 0
        ·rw [if_pos c35] at H
         have c35b0 : ((x4_1.length : Int) == 0) = true := beq_iff_eq.mpr c35
         have c35b1 : ((x4_1.length : Int) != 0) = false := bne_eq_false_iff_eq.mpr c35
         clear c35
         simp only [Option.some.injEq, Prod.mk.injEq] at H
         obtain ⟨rfl, rfl, rfl⟩ := H
         obtain ⟨Ao36, co36, eo36⟩ := Kd.S_slice HO_4.out
         subst eo36
         go_wp2_with (first | ((with_reducible refine gate_callee (f := 33) rfl ?_); refine goesL_ (some 67) rfl rfl Tryd.func33 (by kernel_rfl) rfl #[.slice Ao36 x4_1.length co36] rfl goa_ ?_; (with_reducible refine (area_boxes.calls kj17 _ _ x4_1 t226 t227 _ ?side1 ?side2 A34.out).mono ?_); (case side1 => repeat (first | exact (Kd.S_reads' HO_4.out).2.2 | (with_reducible refine Kd.C_alloc ?_ _) | (with_reducible refine Kd.C_drewN ?_ _) | (with_reducible refine Kd.C_drew ?_))); (case side2 => exact (Kd.S_reads' HO_4.out).2.1); rintro e w37 ⟨v228, rfl, ho0, hb⟩; refine ⟨_, rfl, ?_⟩; have n0_ := Aside0.mk (Kd.S_below (by (with_reducible repeat (first | apply Kd.S_alloc | apply Kd.S_drewN | apply Kd.S_drew)); exact HO_4.out) hb); have n1_ := Aside0.mk (Kd.R_lower ho0 (below_size bel_)); have n2_ := Aside0.mk (below_step bel_ hb); clear HO_4; clear HB; have HO_4 := n0_; have HO229 := n1_; have HB := n2_; clear n0_ n1_ n2_; (try clear hb); (try clear hb2); (try clear hk); (try clear hi); (try clear ho0)))
         go_ret3
         exact ⟨_, rsl_, by first | exact Kd.S_nil _ _ _ _ _ | exact Kd.N_nil _ _ _ _ _ | exact Kd.V_nil _ _ _ _ _ | exact Kd.Q_nil _ _ _ _ _ | exact Kd.R_nil _ _ _ _ _, bel_⟩
        ·rw [if_neg c35] at H
         have c35b0 : ((x4_1.length : Int) == 0) = false := beq_eq_false_iff_ne.mpr c35
         have c35b1 : ((x4_1.length : Int) != 0) = true := bne_iff_ne.mpr c35
         have c35b2 : ¬ (x4_1 = []) := fun h_ => c35 (by rw [h_]; rfl)
         by_cases c38 : t227 = true
         ·subst c38
          rw [if_pos rfl] at H
          simp only [Option.some.injEq, Prod.mk.injEq] at H
          obtain ⟨rfl, rfl, rfl⟩ := H
          obtain ⟨Ao39, co39, eo39⟩ := Kd.S_slice HO_4.out
          subst eo39
          go_wp2_with (first | ((with_reducible refine gate_callee (f := 33) rfl ?_); refine goesL_ (some 67) rfl rfl Tryd.func33 (by kernel_rfl) rfl #[.slice Ao39 x4_1.length co39] rfl goa_ ?_; (with_reducible refine (area_boxes.calls kj17 _ _ x4_1 t226 true _ ?side1 ?side2 A34.out).mono ?_); (case side1 => repeat (first | exact (Kd.S_reads' HO_4.out).2.2 | (with_reducible refine Kd.C_alloc ?_ _) | (with_reducible refine Kd.C_drewN ?_ _) | (with_reducible refine Kd.C_drew ?_))); (case side2 => exact (Kd.S_reads' HO_4.out).2.1); rintro e w40 ⟨v228, rfl, ho0, hb⟩; refine ⟨_, rfl, ?_⟩; have n0_ := Aside0.mk (Kd.S_below (by (with_reducible repeat (first | apply Kd.S_alloc | apply Kd.S_drewN | apply Kd.S_drew)); exact HO_4.out) hb); have n1_ := Aside0.mk (Kd.R_lower ho0 (below_size bel_)); have n2_ := Aside0.mk (below_step bel_ hb); clear HO_4; clear HB; have HO_4 := n0_; have HO229 := n1_; have HB := n2_; clear n0_ n1_ n2_; (try clear hb); (try clear hb2); (try clear hk); (try clear hi); (try clear ho0)))
          go_ret3
          exact ⟨_, rsl_, by (with_reducible repeat (first | apply Kd.S_alloc | apply Kd.S_drewN | apply Kd.S_drew)); exact HO_4.out, bel_⟩
         ·replace c38 := Bool.eq_false_iff.mpr c38
          subst c38
          rw [if_neg (show ¬ (false = true) by decide)] at H
          simp only [Option.some.injEq, Prod.mk.injEq] at H
          obtain ⟨rfl, rfl, rfl⟩ := H
          obtain ⟨Ao41, co41, eo41⟩ := Kd.S_slice HO_4.out
          subst eo41
          go_wp2_with (first | ((with_reducible refine gate_callee (f := 33) rfl ?_); refine goesL_ (some 67) rfl rfl Tryd.func33 (by kernel_rfl) rfl #[.slice Ao41 x4_1.length co41] rfl goa_ ?_; (with_reducible refine (area_boxes.calls kj17 _ _ x4_1 t226 false _ ?side1 ?side2 A34.out).mono ?_); (case side1 => repeat (first | exact (Kd.S_reads' HO_4.out).2.2 | (with_reducible refine Kd.C_alloc ?_ _) | (with_reducible refine Kd.C_drewN ?_ _) | (with_reducible refine Kd.C_drew ?_))); (case side2 => exact (Kd.S_reads' HO_4.out).2.1); rintro e w42 ⟨v228, rfl, ho0, hb⟩; refine ⟨_, rfl, ?_⟩; have n0_ := Aside0.mk (Kd.S_below (by (with_reducible repeat (first | apply Kd.S_alloc | apply Kd.S_drewN | apply Kd.S_drew)); exact HO_4.out) hb); have n1_ := Aside0.mk (Kd.R_lower ho0 (below_size bel_)); have n2_ := Aside0.mk (below_step bel_ hb); clear HO_4; clear HB; have HO_4 := n0_; have HO229 := n1_; have HB := n2_; clear n0_ n1_ n2_; (try clear hb); (try clear hb2); (try clear hk); (try clear hi); (try clear ho0)))
          go_ret3
          exact ⟨_, rsl_, by first | exact Kd.S_nil _ _ _ _ _ | exact Kd.N_nil _ _ _ _ _ | exact Kd.V_nil _ _ _ _ _ | exact Kd.Q_nil _ _ _ _ _ | exact Kd.R_nil _ _ _ _ _, bel_⟩

/-! ### parterrelaw08_lives: function 8 -/
def parterrelaw08_lives.f (k : Nat)  : Option (Bool) := (parterrelaw08_words.f k (⟨#[34, 97, 32, 97, 32, 46, 34, 32, 34, 98, 32, 46, 32, 46, 46, 34]⟩ : ByteArray)).bind fun t230 => ((area_Read.f k t230 0).bind fun bt233 => ((parterrelaw08_words.f k (⟨#[34, 97, 32, 98, 34, 32, 34, 98, 32, 97, 34]⟩ : ByteArray)).bind fun t238 => ((area_Read.f k t238 0).bind fun bt241 => ((area_Rects.f k bt233.1).bind fun t246 => (if bt233.2.2 = 0 then (if bt233.2.1 = 2 then (if (t246.length : Int) = 2 then (if 0 < (t246.length : Int) then (if ((((rd_T33 t246 0).f0).toList) == ([97] : List UInt8) && (((rd_T33 t246 0).f1) == 0 && (((rd_T33 t246 0).f2) == 0 && (((rd_T33 t246 0).f3) == 1 && (((rd_T33 t246 0).f4) == 2))))) = true then (if 1 < (t246.length : Int) then (if ((((rd_T33 t246 1).f0).toList) == ([98] : List UInt8) && (((rd_T33 t246 1).f1) == 1 && (((rd_T33 t246 1).f2) == 0 && (((rd_T33 t246 1).f3) == 1 && (((rd_T33 t246 1).f4) == 1))))) = true then (some (bt241.2.2 == 50)) else (none)) else (none)) else (none)) else (none)) else (none)) else (none)) else (none))))))
theorem parterrelaw08_lives.mono : ∀ k, LeO (parterrelaw08_lives.f k ) (parterrelaw08_lives.f (k + 1) ) := by
 intro  k
 unfold parterrelaw08_lives.f
 repeat' first
   | (with_reducible exact area_Read.mono _ _ _)
   | (with_reducible exact area_Rects.mono _ _)
   | (with_reducible exact parterrelaw08_words.mono _ _)
   | (with_reducible exact LeO.refl _)
   | (with_reducible exact LeO.none _)
   | (with_reducible refine LeO.ite ?_ ?_)
   | (with_reducible refine LeO.bind ?_ (fun _ => ?_))
set_option maxHeartbeats 8000000 in
set_option maxRecDepth 100000 in
theorem parterrelaw08_lives.calls (k : Nat)  (r : Bool) (w : World) (h : parterrelaw08_lives.f k  = some r) :
  Calls Tryd.prog 8 #[] w fun e w' => e = .returned (.bool r) ∧ Below w.heap.size w w' := by
 have hu33 := Tryd.underlying33
 have HB := Aside0.mk (Below.refl w.heap.size w)
 have H : ((parterrelaw08_words.f k (⟨#[34, 97, 32, 97, 32, 46, 34, 32, 34, 98, 32, 46, 32, 46, 46, 34]⟩ : ByteArray)).bind fun t230 => ((area_Read.f k t230 0).bind fun bt233 => ((parterrelaw08_words.f k (⟨#[34, 97, 32, 98, 34, 32, 34, 98, 32, 97, 34]⟩ : ByteArray)).bind fun t238 => ((area_Read.f k t238 0).bind fun bt241 => ((area_Rects.f k bt233.1).bind fun t246 => (if bt233.2.2 = 0 then (if bt233.2.1 = 2 then (if (t246.length : Int) = 2 then (if 0 < (t246.length : Int) then (if ((((rd_T33 t246 0).f0).toList) == ([97] : List UInt8) && (((rd_T33 t246 0).f1) == 0 && (((rd_T33 t246 0).f2) == 0 && (((rd_T33 t246 0).f3) == 1 && (((rd_T33 t246 0).f4) == 2))))) = true then (if 1 < (t246.length : Int) then (if ((((rd_T33 t246 1).f0).toList) == ([98] : List UInt8) && (((rd_T33 t246 1).f1) == 1 && (((rd_T33 t246 1).f2) == 0 && (((rd_T33 t246 1).f3) == 1 && (((rd_T33 t246 1).f4) == 1))))) = true then (some (bt241.2.2 == 50)) else (none)) else (none)) else (none)) else (none)) else (none)) else (none)) else (none))))))) = some r := h
 clear h
 replace H := Option.bind_eq_some_iff.mp H
 obtain ⟨t230, A10, H⟩ := H
 try dsimp only at H
 have A1 := Aside0.mk A10
 clear A10
 replace H := Option.bind_eq_some_iff.mp H
 obtain ⟨⟨t233, t234, t235⟩, A20, H⟩ := H
 try dsimp only at H
 have A2 := Aside0.mk A20
 clear A20
 replace H := Option.bind_eq_some_iff.mp H
 obtain ⟨t238, A30, H⟩ := H
 try dsimp only at H
 have A3 := Aside0.mk A30
 clear A30
 replace H := Option.bind_eq_some_iff.mp H
 obtain ⟨⟨t241, t242, t243⟩, A40, H⟩ := H
 try dsimp only at H
 have A4 := Aside0.mk A40
 clear A40
 replace H := Option.bind_eq_some_iff.mp H
 obtain ⟨t246, A50, H⟩ := H
 try dsimp only at H
 have A5 := Aside0.mk A50
 clear A50
 by_cases c6 : t235 = 0
 ·rw [if_pos c6] at H
  have c6b0 : (t235 == 0) = true := beq_iff_eq.mpr c6
  have c6b1 : (t235 != 0) = false := bne_eq_false_iff_eq.mpr c6
  clear c6
  by_cases c7 : t234 = 2
  ·rw [if_pos c7] at H
   have c7b0 : (t234 == 2) = true := beq_iff_eq.mpr c7
   have c7b1 : (t234 != 2) = false := bne_eq_false_iff_eq.mpr c7
   clear c7
   by_cases c8 : (t246.length : Int) = 2
   ·rw [if_pos c8] at H
    have c8b0 : ((t246.length : Int) == 2) = true := beq_iff_eq.mpr c8
    have c8b1 : ((t246.length : Int) != 2) = false := bne_eq_false_iff_eq.mpr c8
    clear c8
    by_cases c9 : 0 < (t246.length : Int)
    ·rw [if_pos c9] at H
     have c9b0 : decide (0 < (t246.length : Int)) = true := decide_eq_true c9
     have c9b1 : decide (0 < t246.length) = true := decide_eq_true (by omega)
     clear c9
     by_cases c10 : ((((rd_T33 t246 0).f0).toList) == ([97] : List UInt8) && (((rd_T33 t246 0).f1) == 0 && (((rd_T33 t246 0).f2) == 0 && (((rd_T33 t246 0).f3) == 1 && (((rd_T33 t246 0).f4) == 2))))) = true
     ·rw [if_pos c10] at H
      have c10b0 : ((((rd_T33 t246 0).f0).toList) == ([97] : List UInt8) && (((rd_T33 t246 0).f1) == 0 && (((rd_T33 t246 0).f2) == 0 && (((rd_T33 t246 0).f3) == 1 && (((rd_T33 t246 0).f4) == 2))))) = true := c10
      (try (have c10b1 : decide ((((rd_T33 t246 0).f0).toList) = ([97] : List UInt8) && (((rd_T33 t246 0).f1) == 0 && (((rd_T33 t246 0).f2) == 0 && (((rd_T33 t246 0).f3) == 1 && (((rd_T33 t246 0).f4) == 2))))) = true := by simpa using c10))
      (try (have c10b2 : ((((rd_T33 t246 0).f0).toList) == ([97] : List UInt8) && (((rd_T33 t246 0).f1) == 0 && (((rd_T33 t246 0).f2) == 0 && (((rd_T33 t246 0).f3) == 1 && (((rd_T33 t246 0).f4) == 2))))) = true := by simpa using c10))
      clear c10
      by_cases c11 : 1 < (t246.length : Int)
      ·rw [if_pos c11] at H
       have c11b0 : decide (1 < (t246.length : Int)) = true := decide_eq_true c11
       have c11b1 : decide (1 < t246.length) = true := decide_eq_true (by omega)
       clear c11
       by_cases c12 : ((((rd_T33 t246 1).f0).toList) == ([98] : List UInt8) && (((rd_T33 t246 1).f1) == 1 && (((rd_T33 t246 1).f2) == 0 && (((rd_T33 t246 1).f3) == 1 && (((rd_T33 t246 1).f4) == 1))))) = true
       ·rw [if_pos c12] at H
        have c12b0 : ((((rd_T33 t246 1).f0).toList) == ([98] : List UInt8) && (((rd_T33 t246 1).f1) == 1 && (((rd_T33 t246 1).f2) == 0 && (((rd_T33 t246 1).f3) == 1 && (((rd_T33 t246 1).f4) == 1))))) = true := c12
        (try (have c12b1 : decide ((((rd_T33 t246 1).f0).toList) = ([98] : List UInt8) && (((rd_T33 t246 1).f1) == 1 && (((rd_T33 t246 1).f2) == 0 && (((rd_T33 t246 1).f3) == 1 && (((rd_T33 t246 1).f4) == 1))))) = true := by simpa using c12))
        (try (have c12b2 : ((((rd_T33 t246 1).f0).toList) == ([98] : List UInt8) && (((rd_T33 t246 1).f1) == 1 && (((rd_T33 t246 1).f2) == 0 && (((rd_T33 t246 1).f3) == 1 && (((rd_T33 t246 1).f4) == 1))))) = true := by simpa using c12))
        clear c12
        obtain rfl := Option.some.inj H
        go_enter Tryd.func8, Tryd.ntmps8
        go_wp2_with (first | ((with_reducible refine gate_callee (f := 16) rfl ?_); refine goesL_ (some 9) rfl rfl Tryd.func16 (by kernel_rfl) rfl #[.string (⟨#[34, 97, 32, 97, 32, 46, 34, 32, 34, 98, 32, 46, 32, 46, 46, 34]⟩ : ByteArray)] rfl goa_ ?_; (with_reducible refine (parterrelaw08_words.calls k (⟨#[34, 97, 32, 97, 32, 46, 34, 32, 34, 98, 32, 46, 32, 46, 46, 34]⟩ : ByteArray) t230 _ A1.out).mono ?_); rintro e w13 ⟨v231, rfl, ho0, hb⟩; refine ⟨_, rfl, ?_⟩; have n0_ := Aside0.mk (Kd.R_lower ho0 (below_size bel_)); have n1_ := Aside0.mk (below_step bel_ hb); clear HB; have HO232 := n0_; have HB := n1_; clear n0_ n1_; (try clear hb); (try clear hb2); (try clear hk); (try clear hi); (try clear ho0); obtain ⟨Ao14, co14, eo14⟩ := Kd.R_slice HO232.out; subst eo14) | ((with_reducible refine gate_callee (f := 17) rfl ?_); refine goesL_ (some 10) rfl rfl Tryd.func17 (by kernel_rfl) rfl #[.slice Ao14 t230.length co14, .int .i64 0] rfl goa_ ?_; (with_reducible refine (area_Read.calls k _ _ t230 0 t233 t234 t235 _ ?side1 ?side2 A2.out).mono ?_); (case side1 => repeat (first | exact (Kd.R_reads' HO232.out).2.2 | (with_reducible refine Kd.C_alloc ?_ _) | (with_reducible refine Kd.C_drewN ?_ _) | (with_reducible refine Kd.C_drew ?_))); (case side2 => exact (Kd.R_reads' HO232.out).2.1); rintro e w15 ⟨v236, rfl, ho0, hb⟩; refine ⟨_, rfl, ?_⟩; have n0_ := Aside0.mk (Kd.R_below (by (with_reducible repeat (first | apply Kd.R_alloc | apply Kd.R_drewN | apply Kd.R_drew)); exact HO232.out) hb); have n1_ := Aside0.mk (Kd.S_lower ho0 (below_size bel_)); have n2_ := Aside0.mk (below_step bel_ hb); clear HO232; clear HB; have HO232 := n0_; have HO237 := n1_; have HB := n2_; clear n0_ n1_ n2_; (try clear hb); (try clear hb2); (try clear hk); (try clear hi); (try clear ho0)) | ((with_reducible refine gate_callee (f := 16) rfl ?_); refine goesL_ (some 15) rfl rfl Tryd.func16 (by kernel_rfl) rfl #[.string (⟨#[34, 97, 32, 98, 34, 32, 34, 98, 32, 97, 34]⟩ : ByteArray)] rfl goa_ ?_; (with_reducible refine (parterrelaw08_words.calls k (⟨#[34, 97, 32, 98, 34, 32, 34, 98, 32, 97, 34]⟩ : ByteArray) t238 _ A3.out).mono ?_); rintro e w16 ⟨v239, rfl, ho0, hb⟩; refine ⟨_, rfl, ?_⟩; have n0_ := Aside0.mk (Kd.R_elder' (by (with_reducible repeat (first | apply Kd.R_alloc | apply Kd.R_drewN | apply Kd.R_drew)); exact HO232.out) (Kd.R_base ho0) hb); have n1_ := Aside0.mk (Kd.S_below (by (with_reducible repeat (first | apply Kd.S_alloc | apply Kd.S_drewN | apply Kd.S_drew)); exact HO237.out) hb); have n2_ := Aside0.mk (Kd.R_lower (Kd.R_new' ho0 (Kd.R_lt (by (with_reducible repeat (first | apply Kd.R_alloc | apply Kd.R_drewN | apply Kd.R_drew)); exact HO232.out))) (below_size bel_)); have n3_ := Aside0.mk (below_step bel_ hb); clear HO232; clear HO237; clear HB; have HO232 := n0_; have HO237 := n1_; have HO240 := n2_; have HB := n3_; clear n0_ n1_ n2_ n3_; (try clear hb); (try clear hb2); (try clear hk); (try clear hi); (try clear ho0); obtain ⟨Ao17, co17, eo17⟩ := Kd.R_slice HO240.out; subst eo17) | ((with_reducible refine gate_callee (f := 17) rfl ?_); refine goesL_ (some 16) rfl rfl Tryd.func17 (by kernel_rfl) rfl #[.slice Ao17 t238.length co17, .int .i64 0] rfl goa_ ?_; (with_reducible refine (area_Read.calls k _ _ t238 0 t241 t242 t243 _ ?side1 ?side2 A4.out).mono ?_); (case side1 => repeat (first | exact (Kd.R_reads' HO240.out).2.2 | (with_reducible refine Kd.C_alloc ?_ _) | (with_reducible refine Kd.C_drewN ?_ _) | (with_reducible refine Kd.C_drew ?_))); (case side2 => exact (Kd.R_reads' HO240.out).2.1); rintro e w18 ⟨v244, rfl, ho0, hb⟩; refine ⟨_, rfl, ?_⟩; have n0_ := Aside0.mk (Kd.R_below (by (with_reducible repeat (first | apply Kd.R_alloc | apply Kd.R_drewN | apply Kd.R_drew)); exact HO232.out) hb); have n1_ := Aside0.mk (Kd.S_elder' (by (with_reducible repeat (first | apply Kd.S_alloc | apply Kd.S_drewN | apply Kd.S_drew)); exact HO237.out) (Kd.S_base ho0) hb); have n2_ := Aside0.mk (Kd.R_below (by (with_reducible repeat (first | apply Kd.R_alloc | apply Kd.R_drewN | apply Kd.R_drew)); exact HO240.out) hb); have n3_ := Aside0.mk (Kd.S_lower (Kd.S_new' ho0 (Kd.S_lt (by (with_reducible repeat (first | apply Kd.S_alloc | apply Kd.S_drewN | apply Kd.S_drew)); exact HO237.out))) (below_size bel_)); have n4_ := Aside0.mk (below_step bel_ hb); clear HO232; clear HO237; clear HO240; clear HB; have HO232 := n0_; have HO237 := n1_; have HO240 := n2_; have HO245 := n3_; have HB := n4_; clear n0_ n1_ n2_ n3_ n4_; (try clear hb); (try clear hb2); (try clear hk); (try clear hi); (try clear ho0); obtain ⟨Ao19, co19, eo19⟩ := Kd.S_slice HO237.out; subst eo19) | ((with_reducible refine gate_callee (f := 14) rfl ?_); refine goesL_ (some 21) rfl rfl Tryd.func14 (by kernel_rfl) rfl #[.slice Ao19 t233.length co19] rfl goa_ ?_; (with_reducible refine (area_Rects.calls k _ _ t233 t246 _ ?side1 ?side2 A5.out).mono ?_); (case side1 => repeat (first | exact (Kd.S_reads' HO237.out).2.2 | (with_reducible refine Kd.C_alloc ?_ _) | (with_reducible refine Kd.C_drewN ?_ _) | (with_reducible refine Kd.C_drew ?_))); (case side2 => exact (Kd.S_reads' HO237.out).2.1); rintro e w20 ⟨v247, rfl, ho0, hb⟩; refine ⟨_, rfl, ?_⟩; have n0_ := Aside0.mk (Kd.R_below (by (with_reducible repeat (first | apply Kd.R_alloc | apply Kd.R_drewN | apply Kd.R_drew)); exact HO232.out) hb); have n1_ := Aside0.mk (Kd.S_below (by (with_reducible repeat (first | apply Kd.S_alloc | apply Kd.S_drewN | apply Kd.S_drew)); exact HO237.out) hb); have n2_ := Aside0.mk (Kd.R_below (by (with_reducible repeat (first | apply Kd.R_alloc | apply Kd.R_drewN | apply Kd.R_drew)); exact HO240.out) hb); have n3_ := Aside0.mk (Kd.S_below (by (with_reducible repeat (first | apply Kd.S_alloc | apply Kd.S_drewN | apply Kd.S_drew)); exact HO245.out) hb); have n4_ := Aside0.mk (Kd.R_lower ho0 (below_size bel_)); have n5_ := Aside0.mk (below_step bel_ hb); clear HO232; clear HO237; clear HO240; clear HO245; clear HB; have HO232 := n0_; have HO237 := n1_; have HO240 := n2_; have HO245 := n3_; have HO248 := n4_; have HB := n5_; clear n0_ n1_ n2_ n3_ n4_ n5_; (try clear hb); (try clear hb2); (try clear hk); (try clear hi); (try clear ho0); obtain ⟨Ao21, co21, eo21⟩ := Kd.R_slice HO248.out; subst eo21; have p249 : 0 ≤ (0 : Int) := (by omega); have q249 : 0 < (t246.length : Int) := of_decide_eq_true (by first | (with_reducible assumption) | assumption); obtain ⟨ad249, e249, hx249_0, hx249_1, hx249_2, hx249_3, hx249_4⟩ := at_T33 (Kd.R_reads' HO248.out).2.2 0 p249 q249; cases e249; have qi249 : (0 < t246.length) = True := eq_true (by omega); (try rw [show ((0 : Int)).toNat = 0 from rfl] at hx249_0); (try rw [show 0 * 5 = 0 from rfl] at hx249_0); (try rw [Addr.add_zero'] at hx249_0); (try rw [show ((0 : Int)).toNat = 0 from rfl] at hx249_1); (try rw [show 0 * 5 = 0 from rfl] at hx249_1); (try rw [Addr.add_zero'] at hx249_1); (try rw [show ((0 : Int)).toNat = 0 from rfl] at hx249_2); (try rw [show 0 * 5 = 0 from rfl] at hx249_2); (try rw [Addr.add_zero'] at hx249_2); (try rw [show ((0 : Int)).toNat = 0 from rfl] at hx249_3); (try rw [show 0 * 5 = 0 from rfl] at hx249_3); (try rw [Addr.add_zero'] at hx249_3); (try rw [show ((0 : Int)).toNat = 0 from rfl] at hx249_4); (try rw [show 0 * 5 = 0 from rfl] at hx249_4); (try rw [Addr.add_zero'] at hx249_4); replace p249 := eq_true p249; replace q249 := eq_true q249; have p250 : 0 ≤ (1 : Int) := (by omega); have q250 : 1 < (t246.length : Int) := of_decide_eq_true (by first | (with_reducible assumption) | assumption); obtain ⟨ad250, e250, hx250_0, hx250_1, hx250_2, hx250_3, hx250_4⟩ := at_T33 (Kd.R_reads' HO248.out).2.2 1 p250 q250; obtain rfl : ad249 = ad250 := (by injection e250); (try simp only [show (1 : Int).toNat = 1 from rfl, Nat.reduceMul, Nat.reduceEqDiff, Go.Addr.add, ↓reduceIte] at hx250_0); (try simp only [show (1 : Int).toNat = 1 from rfl, Nat.reduceMul, Nat.reduceEqDiff, Go.Addr.add, ↓reduceIte] at hx250_1); (try simp only [show (1 : Int).toNat = 1 from rfl, Nat.reduceMul, Nat.reduceEqDiff, Go.Addr.add, ↓reduceIte] at hx250_2); (try simp only [show (1 : Int).toNat = 1 from rfl, Nat.reduceMul, Nat.reduceEqDiff, Go.Addr.add, ↓reduceIte] at hx250_3); (try simp only [show (1 : Int).toNat = 1 from rfl, Nat.reduceMul, Nat.reduceEqDiff, Go.Addr.add, ↓reduceIte] at hx250_4); have qi250 : (1 < t246.length) = True := eq_true (by omega); (try rw [show ((1 : Int)).toNat = 1 from rfl] at hx250_0); (try rw [show 1 * 5 = 5 from rfl] at hx250_0); (try rw [show ((1 : Int)).toNat = 1 from rfl] at hx250_1); (try rw [show 1 * 5 = 5 from rfl] at hx250_1); (try rw [show ((1 : Int)).toNat = 1 from rfl] at hx250_2); (try rw [show 1 * 5 = 5 from rfl] at hx250_2); (try rw [show ((1 : Int)).toNat = 1 from rfl] at hx250_3); (try rw [show 1 * 5 = 5 from rfl] at hx250_3); (try rw [show ((1 : Int)).toNat = 1 from rfl] at hx250_4); (try rw [show 1 * 5 = 5 from rfl] at hx250_4); replace p250 := eq_true p250; replace q250 := eq_true q250))
        go_ret
        exact ⟨rsl_, bel_⟩
       ·rw [if_neg c12] at H
        exact absurd H (by simp)
      ·rw [if_neg c11] at H
       exact absurd H (by simp)
     ·rw [if_neg c10] at H
      exact absurd H (by simp)
    ·rw [if_neg c9] at H
     exact absurd H (by simp)
   ·rw [if_neg c8] at H
    exact absurd H (by simp)
  ·rw [if_neg c7] at H
   exact absurd H (by simp)
 ·rw [if_neg c6] at H
  exact absurd H (by simp)

/-! ### parterreref03_Blank: function 31 -/
def parterreref03_Blank.f (a0 : Int) : Option (Bool) := if a0 = 32 then (some true) else (if a0 = 9 then (some true) else (if a0 = 10 then (some true) else (if a0 = 13 then (some true) else (some (a0 == 12)))))
set_option maxHeartbeats 8000000 in
set_option maxRecDepth 100000 in
theorem parterreref03_Blank.calls (a0 : Int) (r : Bool) (w : World) (h : parterreref03_Blank.f a0 = some r) :
  Calls Tryd.prog 31 #[.int .u8 a0] w fun e w' => e = .returned (.bool r) ∧ Drawn0 w w' := by
 have H : (if a0 = 32 then (some true) else (if a0 = 9 then (some true) else (if a0 = 10 then (some true) else (if a0 = 13 then (some true) else (some (a0 == 12)))))) = some r := h
 clear h
 by_cases c2 : a0 = 32
 ·rw [if_pos c2] at H
  have c2b0 : (a0 == 32) = true := beq_iff_eq.mpr c2
  have c2b1 : (a0 != 32) = false := bne_eq_false_iff_eq.mpr c2
  clear c2
  obtain rfl := Option.some.inj H
  go_enter Tryd.func31, Tryd.ntmps31
  go_wp2
  go_ret
  exact ⟨by first | rfl | (simp; done) | (simp [*]; done), drs_⟩
 ·rw [if_neg c2] at H
  have c2b0 : (a0 == 32) = false := beq_eq_false_iff_ne.mpr c2
  have c2b1 : (a0 != 32) = true := bne_iff_ne.mpr c2
  by_cases c3 : a0 = 9
  ·rw [if_pos c3] at H
   have c3b0 : (a0 == 9) = true := beq_iff_eq.mpr c3
   have c3b1 : (a0 != 9) = false := bne_eq_false_iff_eq.mpr c3
   clear c3
   obtain rfl := Option.some.inj H
   go_enter Tryd.func31, Tryd.ntmps31
   go_wp2
   go_ret
   exact ⟨by first | rfl | (simp; done) | (simp [*]; done), drs_⟩
  ·rw [if_neg c3] at H
   have c3b0 : (a0 == 9) = false := beq_eq_false_iff_ne.mpr c3
   have c3b1 : (a0 != 9) = true := bne_iff_ne.mpr c3
   by_cases c4 : a0 = 10
   ·rw [if_pos c4] at H
    have c4b0 : (a0 == 10) = true := beq_iff_eq.mpr c4
    have c4b1 : (a0 != 10) = false := bne_eq_false_iff_eq.mpr c4
    clear c4
    obtain rfl := Option.some.inj H
    go_enter Tryd.func31, Tryd.ntmps31
    go_wp2
    go_ret
    exact ⟨by first | rfl | (simp; done) | (simp [*]; done), drs_⟩
   ·rw [if_neg c4] at H
    have c4b0 : (a0 == 10) = false := beq_eq_false_iff_ne.mpr c4
    have c4b1 : (a0 != 10) = true := bne_iff_ne.mpr c4
    by_cases c5 : a0 = 13
    ·rw [if_pos c5] at H
     have c5b0 : (a0 == 13) = true := beq_iff_eq.mpr c5
     have c5b1 : (a0 != 13) = false := bne_eq_false_iff_eq.mpr c5
     clear c5
     obtain rfl := Option.some.inj H
     go_enter Tryd.func31, Tryd.ntmps31
     go_wp2
     go_ret
     exact ⟨by first | rfl | (simp; done) | (simp [*]; done), drs_⟩
    ·rw [if_neg c5] at H
     have c5b0 : (a0 == 13) = false := beq_eq_false_iff_ne.mpr c5
     have c5b1 : (a0 != 13) = true := bne_iff_ne.mpr c5
     obtain rfl := Option.some.inj H
     go_enter Tryd.func31, Tryd.ntmps31
     go_wp2
     go_ret
     exact ⟨by first | rfl | (simp; done) | (simp [*]; done), drs_⟩

/-! ### parterreref03_Letter: function 55 -/
def parterreref03_Letter.f (a0 : Int) : Option (Bool) := if a0 ≥ 97 then (if a0 ≤ 122 then (some true) else (if a0 ≥ 65 then (if a0 ≤ 90 then (some true) else (if a0 = 95 then (some true) else (some (decide (a0 ≥ 128))))) else (if a0 = 95 then (some true) else (some (decide (a0 ≥ 128)))))) else (if a0 ≥ 65 then (if a0 ≤ 90 then (some true) else (if a0 = 95 then (some true) else (some (decide (a0 ≥ 128))))) else (if a0 = 95 then (some true) else (some (decide (a0 ≥ 128)))))
set_option maxHeartbeats 8000000 in
set_option maxRecDepth 100000 in
theorem parterreref03_Letter.calls (a0 : Int) (r : Bool) (w : World) (h : parterreref03_Letter.f a0 = some r) :
  Calls Tryd.prog 55 #[.int .u8 a0] w fun e w' => e = .returned (.bool r) ∧ Drawn0 w w' := by
 have H : (if a0 ≥ 97 then (if a0 ≤ 122 then (some true) else (if a0 ≥ 65 then (if a0 ≤ 90 then (some true) else (if a0 = 95 then (some true) else (some (decide (a0 ≥ 128))))) else (if a0 = 95 then (some true) else (some (decide (a0 ≥ 128)))))) else (if a0 ≥ 65 then (if a0 ≤ 90 then (some true) else (if a0 = 95 then (some true) else (some (decide (a0 ≥ 128))))) else (if a0 = 95 then (some true) else (some (decide (a0 ≥ 128)))))) = some r := h
 clear h
 by_cases c2 : a0 ≥ 97
 ·rw [if_pos c2] at H
  have c2b0 : decide (97 ≤ a0) = true := decide_eq_true c2
  clear c2
  by_cases c3 : a0 ≤ 122
  ·rw [if_pos c3] at H
   have c3b0 : decide (a0 ≤ 122) = true := decide_eq_true c3
   clear c3
   obtain rfl := Option.some.inj H
   go_enter Tryd.func55, Tryd.ntmps55
   go_wp2
   go_ret
   exact ⟨by first | rfl | (simp; done) | (simp [*]; done), drs_⟩
  ·rw [if_neg c3] at H
   have c3b0 : decide (a0 ≤ 122) = false := decide_eq_false c3
   clear c3
   by_cases c4 : a0 ≥ 65
   ·rw [if_pos c4] at H
    have c4b0 : decide (65 ≤ a0) = true := decide_eq_true c4
    clear c4
    by_cases c5 : a0 ≤ 90
    ·rw [if_pos c5] at H
     have c5b0 : decide (a0 ≤ 90) = true := decide_eq_true c5
     clear c5
     obtain rfl := Option.some.inj H
     go_enter Tryd.func55, Tryd.ntmps55
     go_wp2
     go_ret
     exact ⟨by first | rfl | (simp; done) | (simp [*]; done), drs_⟩
    ·rw [if_neg c5] at H
     have c5b0 : decide (a0 ≤ 90) = false := decide_eq_false c5
     clear c5
     by_cases c6 : a0 = 95
     ·rw [if_pos c6] at H
      have c6b0 : (a0 == 95) = true := beq_iff_eq.mpr c6
      have c6b1 : (a0 != 95) = false := bne_eq_false_iff_eq.mpr c6
      clear c6
      obtain rfl := Option.some.inj H
      go_enter Tryd.func55, Tryd.ntmps55
      go_wp2
      go_ret
      exact ⟨by first | rfl | (simp; done) | (simp [*]; done), drs_⟩
     ·rw [if_neg c6] at H
      have c6b0 : (a0 == 95) = false := beq_eq_false_iff_ne.mpr c6
      have c6b1 : (a0 != 95) = true := bne_iff_ne.mpr c6
      obtain rfl := Option.some.inj H
      go_enter Tryd.func55, Tryd.ntmps55
      go_wp2
      go_ret
      exact ⟨by first | rfl | (simp; done) | (simp [*]; done), drs_⟩
   ·rw [if_neg c4] at H
    have c4b0 : decide (65 ≤ a0) = false := decide_eq_false c4
    clear c4
    by_cases c7 : a0 = 95
    ·rw [if_pos c7] at H
     have c7b0 : (a0 == 95) = true := beq_iff_eq.mpr c7
     have c7b1 : (a0 != 95) = false := bne_eq_false_iff_eq.mpr c7
     clear c7
     obtain rfl := Option.some.inj H
     go_enter Tryd.func55, Tryd.ntmps55
     go_wp2
     go_ret
     exact ⟨by first | rfl | (simp; done) | (simp [*]; done), drs_⟩
    ·rw [if_neg c7] at H
     have c7b0 : (a0 == 95) = false := beq_eq_false_iff_ne.mpr c7
     have c7b1 : (a0 != 95) = true := bne_iff_ne.mpr c7
     obtain rfl := Option.some.inj H
     go_enter Tryd.func55, Tryd.ntmps55
     go_wp2
     go_ret
     exact ⟨by first | rfl | (simp; done) | (simp [*]; done), drs_⟩
 ·rw [if_neg c2] at H
  have c2b0 : decide (97 ≤ a0) = false := decide_eq_false c2
  clear c2
  by_cases c8 : a0 ≥ 65
  ·rw [if_pos c8] at H
   have c8b0 : decide (65 ≤ a0) = true := decide_eq_true c8
   clear c8
   by_cases c9 : a0 ≤ 90
   ·rw [if_pos c9] at H
    have c9b0 : decide (a0 ≤ 90) = true := decide_eq_true c9
    clear c9
    obtain rfl := Option.some.inj H
    go_enter Tryd.func55, Tryd.ntmps55
    go_wp2
    go_ret
    exact ⟨by first | rfl | (simp; done) | (simp [*]; done), drs_⟩
   ·rw [if_neg c9] at H
    have c9b0 : decide (a0 ≤ 90) = false := decide_eq_false c9
    clear c9
    by_cases c10 : a0 = 95
    ·rw [if_pos c10] at H
     have c10b0 : (a0 == 95) = true := beq_iff_eq.mpr c10
     have c10b1 : (a0 != 95) = false := bne_eq_false_iff_eq.mpr c10
     clear c10
     obtain rfl := Option.some.inj H
     go_enter Tryd.func55, Tryd.ntmps55
     go_wp2
     go_ret
     exact ⟨by first | rfl | (simp; done) | (simp [*]; done), drs_⟩
    ·rw [if_neg c10] at H
     have c10b0 : (a0 == 95) = false := beq_eq_false_iff_ne.mpr c10
     have c10b1 : (a0 != 95) = true := bne_iff_ne.mpr c10
     obtain rfl := Option.some.inj H
     go_enter Tryd.func55, Tryd.ntmps55
     go_wp2
     go_ret
     exact ⟨by first | rfl | (simp; done) | (simp [*]; done), drs_⟩
  ·rw [if_neg c8] at H
   have c8b0 : decide (65 ≤ a0) = false := decide_eq_false c8
   clear c8
   by_cases c11 : a0 = 95
   ·rw [if_pos c11] at H
    have c11b0 : (a0 == 95) = true := beq_iff_eq.mpr c11
    have c11b1 : (a0 != 95) = false := bne_eq_false_iff_eq.mpr c11
    clear c11
    obtain rfl := Option.some.inj H
    go_enter Tryd.func55, Tryd.ntmps55
    go_wp2
    go_ret
    exact ⟨by first | rfl | (simp; done) | (simp [*]; done), drs_⟩
   ·rw [if_neg c11] at H
    have c11b0 : (a0 == 95) = false := beq_eq_false_iff_ne.mpr c11
    have c11b1 : (a0 != 95) = true := bne_iff_ne.mpr c11
    obtain rfl := Option.some.inj H
    go_enter Tryd.func55, Tryd.ntmps55
    go_wp2
    go_ret
    exact ⟨by first | rfl | (simp; done) | (simp [*]; done), drs_⟩

/-! ### parterreref08_inner: function 32 -/
def parterreref08_inner.f (a0 : Int) : Option (Bool) := (parterreref03_Letter.f a0).bind fun t251 => (if t251 = true then (some true) else (if a0 ≥ 48 then (if a0 ≤ 57 then (some true) else (some (a0 == 45))) else (some (a0 == 45))))
set_option maxHeartbeats 8000000 in
set_option maxRecDepth 100000 in
theorem parterreref08_inner.calls (a0 : Int) (r : Bool) (w : World) (h : parterreref08_inner.f a0 = some r) :
  Calls Tryd.prog 32 #[.int .u8 a0] w fun e w' => e = .returned (.bool r) ∧ Drawn0 w w' := by
 have H : ((parterreref03_Letter.f a0).bind fun t251 => (if t251 = true then (some true) else (if a0 ≥ 48 then (if a0 ≤ 57 then (some true) else (some (a0 == 45))) else (some (a0 == 45))))) = some r := h
 clear h
 replace H := Option.bind_eq_some_iff.mp H
 obtain ⟨t251, A20, H⟩ := H
 try dsimp only at H
 have A2 := Aside0.mk A20
 clear A20
 by_cases c3 : t251 = true
 ·subst c3
  rw [if_pos rfl] at H
  obtain rfl := Option.some.inj H
  go_enter Tryd.func32, Tryd.ntmps32
  go_wp2_with (first | ((with_reducible refine gate_callee (f := 55) rfl ?_); refine goesL_ (some 4) rfl rfl Tryd.func55 (by kernel_rfl) rfl #[.int .u8 a0] rfl goa_ ?_; (with_reducible refine (parterreref03_Letter.calls a0 true _ A2.out).mono ?_); rintro e w' ⟨rfl, ⟨nd, rfl⟩⟩; refine ⟨_, rfl, ?_⟩))
  go_ret
  exact ⟨by first | rfl | (simp; done) | (simp [*]; done), drs_⟩
 ·replace c3 := Bool.eq_false_iff.mpr c3
  subst c3
  rw [if_neg (show ¬ (false = true) by decide)] at H
  by_cases c4 : a0 ≥ 48
  ·rw [if_pos c4] at H
   have c4b0 : decide (48 ≤ a0) = true := decide_eq_true c4
   clear c4
   by_cases c5 : a0 ≤ 57
   ·rw [if_pos c5] at H
    have c5b0 : decide (a0 ≤ 57) = true := decide_eq_true c5
    clear c5
    obtain rfl := Option.some.inj H
    go_enter Tryd.func32, Tryd.ntmps32
    go_wp2_with (first | ((with_reducible refine gate_callee (f := 55) rfl ?_); refine goesL_ (some 4) rfl rfl Tryd.func55 (by kernel_rfl) rfl #[.int .u8 a0] rfl goa_ ?_; (with_reducible refine (parterreref03_Letter.calls a0 false _ A2.out).mono ?_); rintro e w' ⟨rfl, ⟨nd, rfl⟩⟩; refine ⟨_, rfl, ?_⟩))
    go_ret
    exact ⟨by first | rfl | (simp; done) | (simp [*]; done), drs_⟩
   ·rw [if_neg c5] at H
    have c5b0 : decide (a0 ≤ 57) = false := decide_eq_false c5
    clear c5
    obtain rfl := Option.some.inj H
    go_enter Tryd.func32, Tryd.ntmps32
    go_wp2_with (first | ((with_reducible refine gate_callee (f := 55) rfl ?_); refine goesL_ (some 4) rfl rfl Tryd.func55 (by kernel_rfl) rfl #[.int .u8 a0] rfl goa_ ?_; (with_reducible refine (parterreref03_Letter.calls a0 false _ A2.out).mono ?_); rintro e w' ⟨rfl, ⟨nd, rfl⟩⟩; refine ⟨_, rfl, ?_⟩))
    go_ret
    exact ⟨by first | rfl | (simp; done) | (simp [*]; done), drs_⟩
  ·rw [if_neg c4] at H
   have c4b0 : decide (48 ≤ a0) = false := decide_eq_false c4
   clear c4
   obtain rfl := Option.some.inj H
   go_enter Tryd.func32, Tryd.ntmps32
   go_wp2_with (first | ((with_reducible refine gate_callee (f := 55) rfl ?_); refine goesL_ (some 4) rfl rfl Tryd.func55 (by kernel_rfl) rfl #[.int .u8 a0] rfl goa_ ?_; (with_reducible refine (parterreref03_Letter.calls a0 false _ A2.out).mono ?_); rintro e w' ⟨rfl, ⟨nd, rfl⟩⟩; refine ⟨_, rfl, ?_⟩))
   go_ret
   exact ⟨by first | rfl | (simp; done) | (simp [*]; done), drs_⟩

end Go.Proofs.YtofdhdafabmhmaaDoor.PAr
end
