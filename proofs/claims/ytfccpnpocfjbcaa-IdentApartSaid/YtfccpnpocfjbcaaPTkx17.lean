-- Written by a program of this session (wip/p2) out of the translation; Lean checks it.
import Derived.Test.YtfccpnpocfjbcaaSq
import Derived.Test.YtfccpnpocfjbcaaPTkx0
import Derived.Test.YtfccpnpocfjbcaaPTkx6
import Derived.Test.YtfccpnpocfjbcaaPTkx15
import Derived.Test.YtfccpnpocfjbcaaPTkx16
import Derived.Test.YtfccpnpocfjbcaaGbuilder
import Derived.Test.YtfccpnpocfjbcaaShelf
namespace Go.Proofs.Ytfccpnpocfjbcaa.PTk
open Go.RowKit Go.Proofs.YtfccpnpocfjbcaaW.PrintWords Go.Proofs.YtfccpnpocfjbcaaW.PrintLast Go.Proofs.YtfccpnpocfjbcaaW.PrintMore
attribute [local go_sem] max2_int min2_int max_two min_two max_three min_three max_four min_four   -- for this text's walks alone
set_option linter.unusedVariables false
set_option linter.unusedSimpArgs false
open Go.Proofs.Ytfccpnpocfjbcaa.Opn Go.Proofs.Ytfccpnpocfjbcaa.Giv

/-! ### ident_Quote: function 17 -/
def ident_Quote.sub (s : ByteArray) (i : Int) : ByteArray := s.extract i.toNat (wrap64 (i + 1)).toNat
def ident_Quote.one (s : ByteArray) (i : Int) : Option ByteArray :=
 (ident_control.f (bt s i)).bind fun t3 => (ident_escaped.f (bt s i)).bind fun t4 =>
  some (if t3 = true then t4 else if bt s i = 34 then (⟨#[92]⟩ : ByteArray) ++ ident_Quote.sub s i else if bt s i = 92 then (⟨#[92]⟩ : ByteArray) ++ ident_Quote.sub s i else ident_Quote.sub s i)

/-- The pieces of the first bytes, one behind the other. -/
def ident_Quote.cat (s : ByteArray) : Nat → Option (List UInt8)
 | 0 => some []
 | n + 1 => (ident_Quote.cat s n).bind fun l => (ident_Quote.one s n).bind fun r => if r.size ≤ 8 then some (l ++ r.data.toList) else none
theorem ident_Quote.cat_lt (s : ByteArray) : ∀ {n : Nat} {l : List UInt8}, ident_Quote.cat s n = some l → ∀ {i : Nat}, i < n → ∃ c r, ident_Quote.cat s i = some c ∧ ident_Quote.one s i = some r ∧ r.size ≤ 8 ∧ ident_Quote.cat s (i + 1) = some (c ++ r.data.toList)
 | 0, _, _, _, h => absurd h (Nat.not_lt_zero _)
 | n + 1, l, h, i, hi => by
  simp only [ident_Quote.cat] at h
  obtain ⟨c, h1, h⟩ := Option.bind_eq_some_iff.1 h
  obtain ⟨r, h2, h⟩ := Option.bind_eq_some_iff.1 h
  by_cases h3 : r.size ≤ 8
  ·rw [if_pos h3] at h
   rcases Nat.lt_or_ge i n with h4 | h4
   ·exact ident_Quote.cat_lt s h1 h4
   ·obtain rfl : i = n := by omega
    refine ⟨c, r, h1, h2, h3, ?_⟩
    show (ident_Quote.cat s i).bind _ = _
    rw [h1]
    show (ident_Quote.one s i).bind _ = _
    rw [h2]
    exact if_pos h3
  ·rw [if_neg h3] at h
   cases h
theorem ident_Quote.cat_len (s : ByteArray) : ∀ (n : Nat) (l : List UInt8), ident_Quote.cat s n = some l → l.length ≤ n * 8
 | 0, l, h => by
  obtain rfl := Option.some.inj h
  simp
 | n + 1, l, h => by
  simp only [ident_Quote.cat] at h
  obtain ⟨c, h1, h⟩ := Option.bind_eq_some_iff.1 h
  obtain ⟨r, h2, h⟩ := Option.bind_eq_some_iff.1 h
  by_cases h3 : r.size ≤ 8
  ·rw [if_pos h3] at h
   obtain rfl := Option.some.inj h
   have := ident_Quote.cat_len s n c h1
   have h5 : r.data.toList.length = r.size := by simp
   rw [List.length_append, h5]
   omega
  ·rw [if_neg h3] at h
   cases h

set_option maxHeartbeats 8000000 in
set_option maxRecDepth 100000 in
theorem ident_Quote.one_calls (cb : Nat) (i : Int) (s : ByteArray) (r : ByteArray) (w : World) (hi0 : 0 ≤ i) (hi1 : i < (s.size : Int)) (hc : w.cell? ⟨cb, 0, none⟩ = some (.string s)) (hs : s.size ≤ 1000000) (h : ident_Quote.one s i = some r) :
  Calls Try.prog 36 #[.int .i64 i, .int .u8 (bt s i), .pointer (some ⟨cb, 0, none⟩)] w fun e w' => e = .returned (.string r) ∧ Drawn0 w w' := by
 obtain ⟨t3, ht3, h⟩ := Option.bind_eq_some_iff.1 h
 obtain ⟨t4, ht4, h⟩ := Option.bind_eq_some_iff.1 h
 replace h := Option.some.inj h
 have T3 := Aside0.mk ht3
 have T4 := Aside0.mk ht4
 clear ht3 ht4
 have hw1 : wrap64 (i + 1) = i + 1 := by unfold wrap64; omega
 have q0 : (0 ≤ i) = True := eq_true hi0
 have q2 : (i ≤ wrap64 (i + 1)) = True := eq_true (by omega)
 have q3 : (wrap64 (i + 1) ≤ (s.size : Int)) = True := eq_true (by omega)
 have q2b : decide (i ≤ wrap64 (i + 1)) = true := decide_eq_true (by omega)
 have q3b : decide (wrap64 (i + 1) ≤ (s.size : Int)) = true := decide_eq_true (by omega)
 have q0b : decide (0 ≤ i) = true := decide_eq_true hi0
 have qs3 : (9223372036854775807 < 1 + ((wrap64 (i + 1)).toNat - i.toNat)) = False := eq_false (by rw [hw1]; omega)
 have hD : (∃ b3 b4 : Bool, (bt s i == 34) = b3 ∧ (bt s i == 92) = b4) := ⟨_, _, rfl, rfl⟩
 obtain ⟨b3, b4, p3, p4⟩ := hD
 have h' : r = (if t3 = true then t4 else if b3 = true then (⟨#[92]⟩ : ByteArray) ++ ident_Quote.sub s i else if b4 = true then (⟨#[92]⟩ : ByteArray) ++ ident_Quote.sub s i else ident_Quote.sub s i) := by
  rw [← h]
  simp only [← p3, ← p4, beq_iff_eq]
 unfold ident_Quote.sub at h'
 clear h hw1 hi0 hi1 hs
 cases t3 <;> cases b3 <;> cases b4
 all_goals
  simp at h'
  subst h'
  go_enter Try.func36, Try.ntmps36
  go_wp2_with (first
   | (go_at_call 33; refine (ident_control.calls _ _ _ T3.out).mono ?_; rintro e w5 ⟨rfl, ⟨nd3, rfl⟩⟩)
   | (go_at_call 34; refine (ident_escaped.calls _ _ _ T4.out).mono ?_; rintro e w5 ⟨rfl, ⟨nd4, rfl⟩⟩))
  go_ret
  exact ⟨rfl, by repeat (first | exact Drawn0.refl _ | apply Drawn0.step)⟩

theorem ident_Quote.isB {T e : TypeId} {B b : Nat} {l : List Value} {w : World} (h : Lib.IsBuilder T e B b l w) (n : Nat) : Lib.IsBuilder T e B b l (w.drewN n) := h
theorem ident_Quote.belowN {B : Nat} {a w : World} (h : Below B a w) (n : Nat) : Below B a (w.drewN n) := h.trans ⟨rfl, rfl, rfl, Nat.le_refl _, fun _ _ => rfl⟩
theorem ident_Quote.built {T e : TypeId} {B b : Nat} {l : List UInt8} {r : ByteArray} {w : World} (h : Lib.BuilderAt T e B b (.pointer (some ⟨b, 0, none⟩)) (Lib.byteCells l ++ Lib.strCells r) w) : Lib.IsBuilder T e B b (Lib.byteCells (l ++ r.data.toList)) w := Or.inr (by
 unfold Lib.byteCells Lib.strCells at *
 rw [List.map_append]
 exact h)
theorem ident_Quote.short {c : List UInt8} {r s : ByteArray} {i : Nat} (h1 : c.length ≤ i * 8) (h2 : r.size ≤ 8) (h3 : s.size ≤ 1000000) (h4 : (i : Int) < (s.size : Int)) : (Lib.byteCells c).length + r.size ≤ 140737488355328 := by
 unfold Lib.byteCells
 rw [List.length_map]
 omega
theorem ident_Quote.next {i : Nat} {s : ByteArray} (h1 : (i : Int) < (s.size : Int)) (hs : s.size ≤ 1000000) : wrap64 ((i : Int) + 1) = ((i + 1 : Nat) : Int) := by
 unfold wrap64
 omega
theorem ident_Quote.less {i : Nat} {s : ByteArray} (h1 : (i : Int) < (s.size : Int)) (hw : wrap64 ((i : Int) + 1) = ((i + 1 : Nat) : Int)) : s.size - (intOf (.int .i64 (wrap64 ((i : Int) + 1)))).toNat < s.size - (intOf (.int .i64 (i : Int))).toNat := by
 rw [hw]
 show s.size - (((i + 1 : Nat) : Int)).toNat < s.size - ((i : Int)).toNat
 rw [Int.toNat_natCast, Int.toNat_natCast]
 clear hw
 omega
theorem ident_Quote.size_drewN {w wr : World} (h : w.heap.size ≤ wr.heap.size) (n : Nat) : w.heap.size ≤ (wr.drewN n).heap.size := h
theorem ident_Quote.small {i : Int} {s : ByteArray} (h0 : 0 ≤ i) (h1 : i < (s.size : Int)) (hs : s.size ≤ 1000000) : wrap64 (i + 1) = i + 1 := by unfold wrap64; omega

set_option maxHeartbeats 4000000 in
set_option maxRecDepth 100000 in
theorem ident_Quote.each_calls (cb : Nat) (s : ByteArray) (l : List UInt8) (w : World) (hc : w.cell? ⟨cb, 0, none⟩ = some (.string s)) (hs : s.size ≤ 1000000) (hl : ident_Quote.cat s s.size = some l) :
  Calls Try.prog 30 #[.string s, .func (.func 36) #[] #[.pointer (some ⟨cb, 0, none⟩)]] w fun e w' => e = .returned (.string ⟨l.toArray⟩) ∧ Below w.heap.size w w' := by
 have hcl := World.block_lt_of_cell? w _ hc
 have HC := Aside0.mk hc
 have HL := Aside0.mk hl
 have HS := Aside0.mk hs
 clear hc hl hs
 go_enter Try.func30, Try.ntmps30
 go_wp2
 go_loopw [9] (fun v9 wr => ∃ (i : Nat) (c : List UInt8), i ≤ s.size ∧ v9 = .int .i64 i ∧ Aside0 (ident_Quote.cat s i = some c) ∧ Aside0 (Lib.IsBuilder 61 5 w.heap.size w.heap.size (Lib.byteCells c) wr) ∧ Aside0 (Below w.heap.size w wr))
  (fun v9 _ => s.size - (intOf v9).toNat)
 case atStart => exact ⟨0, [], Nat.zero_le _, rfl, ⟨rfl⟩, ⟨Lib.fresh_isBuilder _ _ w⟩, ⟨(Below.refl _ _).alloc (Nat.le_refl _) _⟩⟩
 case round =>
  obtain ⟨i, c, hi, rfl, HK, HB, HW⟩ := hrel
  by_cases hlt : i < s.size
  ·have q0 : (0 ≤ (i : Int)) = True := eq_true (by omega)
   have q1 : ((i : Int) < (s.size : Int)) = True := eq_true (by omega)
   have q2 : decide ((i : Int) < (s.size : Int)) = true := decide_eq_true (by omega)
   have q3 : decide (i < s.size) = true := decide_eq_true hlt
   have hx : ∀ h : i < s.size, ((s[i].toNat : Nat) : Int) = bt s i := fun h => bt_at s i h
   have q4 : (i < s.size) = True := eq_true hlt
   obtain ⟨c', r, h1, h2, h3, h4⟩ := ident_Quote.cat_lt s HL.out hlt
   obtain rfl := Option.some.inj (HK.out.symm.trans h1)
   have HN := Aside0.mk h4
   have HO := Aside0.mk h2
   have HR := Aside0.mk h3
   have hcw := (HW.out.cell hcl).trans HC.out
   have HCW := Aside0.mk hcw
   have HLEN := Aside0.mk (ident_Quote.short (ident_Quote.cat_len s i c HK.out) HR.out HS.out (q1.mpr trivial))
   have H0 := Aside0.mk (q0.mpr trivial)
   have H1 := Aside0.mk (q1.mpr trivial)
   have HSW := Aside0.mk HW.out.size
   clear h1 h2 h3 h4 hcw hlt hi
   go_wp2_with (first
    | (go_at_call 36; refine (ident_Quote.one_calls cb i s r _ H0.out H1.out HCW.out HS.out HO.out).mono ?_; rintro e w5 ⟨rfl, ⟨nd, rfl⟩⟩)
    | (go_at_call 49; refine (Giv.writeString_calls w.heap.size w.heap.size (Lib.byteCells c) r _ ?g1 HLEN.out ?g2).mono ?_; (case g1 => repeat (first | (with_reducible exact HB.out) | (with_reducible apply ident_Quote.isB))); (case g2 => exact HSW.out); rintro e w6 ⟨rfl, hb6, hbe6⟩; have HW6 := Aside0.mk (Below.trans (by repeat (first | (with_reducible exact HW.out) | (with_reducible apply ident_Quote.belowN))) hbe6); clear hbe6))
   have HWR := Aside0.mk (ident_Quote.next H1.out HS.out)
   go_roundw
   case rel => exact ⟨i + 1, c ++ r.data.toList, by have := H1.out; omega, by rw [HWR.out], HN, ⟨ident_Quote.built hb6⟩, HW6⟩
   case measure => exact ident_Quote.less H1.out HWR.out
  ·have hie : i = s.size := by omega
   subst hie
   have q2 : decide ((s.size : Int) < (s.size : Int)) = false := decide_eq_false (by omega)
   have q3 : decide (s.size < s.size) = false := decide_eq_false (by omega)
   obtain rfl := Option.some.inj (HK.out.symm.trans HL.out)
   have HSW := Aside0.mk HW.out.size
   clear hlt
   go_wp2_with (first
    | (go_at_call 50; refine (Try.Builder_String_any w.heap.size w.heap.size c _ HB.out HSW.out).mono ?_; rintro e w6 ⟨rfl, hb6⟩))
   go_ret
   exact ⟨rfl, HW.out.trans hb6⟩

theorem ident_Quote.boxed (w : World) (s : ByteArray) (T : TypeId) : (w.alloc (.cells #[.string s] T)).cell? ⟨w.heap.size, 0, none⟩ = some (.string s) := by
 simp
theorem ident_Quote.cellN {w : World} {p : Addr} {v : Value} (h : w.cell? p = some v) (n : Nat) : (w.drewN n).cell? p = some v := h
theorem ident_Quote.belowA (w : World) (o : Obj) : Below w.heap.size w (w.alloc o) := below_alloc (Below.refl _ _) _

def ident_Quote.f (s : ByteArray) : Option ByteArray := if (s.size : Int) > 8192 then some ⟨#[]⟩ else (strings_IndexByte.f s 0).bind fun t => if t ≥ 0 then some ⟨#[]⟩ else (ident_Quote.cat s s.size).bind fun l => some (((⟨#[34]⟩ : ByteArray) ++ ⟨l.toArray⟩) ++ (⟨#[34]⟩ : ByteArray))
set_option maxHeartbeats 2000000 in
set_option maxRecDepth 100000 in
theorem ident_Quote.calls (s : ByteArray) (r : ByteArray) (w : World) (h : ident_Quote.f s = some r) :
  Calls Try.prog 17 #[.string s] w fun e w' => e = .returned (.string r) ∧ Below w.heap.size w w' := by
 unfold ident_Quote.f at h
 by_cases hs : (s.size : Int) > 8192
 ·rw [if_pos hs] at h
  obtain rfl := Option.some.inj h
  have q1 : decide (8192 < (s.size : Int)) = true := decide_eq_true hs
  have q2 : decide (8192 < s.size) = true := decide_eq_true (by omega)
  clear hs
  go_enter Try.func17, Try.ntmps17
  go_wp2
  go_ret
  exact ⟨rfl, by repeat (first | (with_reducible exact ident_Quote.belowA _ _) | (with_reducible apply ident_Quote.belowN))⟩
 ·rw [if_neg hs] at h
  obtain ⟨t, ht, h⟩ := Option.bind_eq_some_iff.1 h
  have q1 : decide (8192 < (s.size : Int)) = false := decide_eq_false hs
  have q2 : decide (8192 < s.size) = false := decide_eq_false (by omega)
  have HS : Aside0 (s.size ≤ 1000000) := ⟨by omega⟩
  have HS2 : Aside0 (s.size ≤ 8192) := ⟨by omega⟩
  have HT := Aside0.mk ht
  clear ht hs
  by_cases h0 : t ≥ 0
  ·rw [if_pos h0] at h
   obtain rfl := Option.some.inj h
   have q3 : decide (0 ≤ t) = true := decide_eq_true h0
   clear h0
   go_enter Try.func17, Try.ntmps17
   go_wp2_with (first
    | (go_at_call 35; refine (strings_IndexByte.calls s 0 t _ HT.out).mono ?_; rintro e w5 ⟨rfl, ⟨nd, rfl⟩⟩))
   go_ret
   exact ⟨rfl, by repeat (first | (with_reducible exact ident_Quote.belowA _ _) | (with_reducible apply ident_Quote.belowN))⟩
  ·rw [if_neg h0] at h
   have q3 : decide (0 ≤ t) = false := decide_eq_false h0
   clear h0
   obtain ⟨l, hl, h⟩ := Option.bind_eq_some_iff.1 h
   obtain rfl := Option.some.inj h
   have HL := Aside0.mk hl
   have hz : l.length ≤ 80000 := by
    have := ident_Quote.cat_len s _ _ hl
    have := HS2.out
    omega
   have f1 : (9223372036854775807 < 1 + (⟨l.toArray⟩ : ByteArray).size) = False := eq_false (by show ¬ (9223372036854775807 < 1 + l.toArray.size); rw [List.size_toArray]; omega)
   have f2 : (9223372036854775807 < ((⟨#[34]⟩ : ByteArray) ++ (⟨l.toArray⟩ : ByteArray)).size + 1) = False := eq_false (by rw [ByteArray.size_append]; show ¬ (9223372036854775807 < 1 + l.toArray.size + 1); rw [List.size_toArray]; omega)
   have f3 : (9223372036854775807 < 1 + l.length) = False := eq_false (by omega)
   have f4 : (9223372036854775807 < 1 + l.length + 1) = False := eq_false (by omega)
   have f5 : (9223372036854775807 < 1 + (⟨l.toArray⟩ : ByteArray).size + 1) = False := eq_false (by show ¬ (9223372036854775807 < 1 + l.toArray.size + 1); rw [List.size_toArray]; omega)
   clear hl h hz
   go_enter Try.func17, Try.ntmps17
   go_wp2_with (first
    | (go_at_call 35; refine (strings_IndexByte.calls s 0 t _ HT.out).mono ?_; rintro e w5 ⟨rfl, ⟨nd, rfl⟩⟩)
    | (go_at_call 30; refine (ident_Quote.each_calls w.heap.size s l _ ?g1 HS.out HL.out).mono ?_; (case g1 => repeat (first | (with_reducible exact ident_Quote.boxed _ _ _) | (with_reducible apply ident_Quote.cellN))); rintro e w6 ⟨rfl, hb6⟩; have HW6 := Aside0.mk (below_step (by repeat (first | (with_reducible exact ident_Quote.belowA _ _) | (with_reducible apply ident_Quote.belowN))) hb6); clear hb6))
   go_ret
   exact ⟨rfl, by repeat (first | (with_reducible exact HW6.out) | (with_reducible apply ident_Quote.belowN))⟩

/-! ### parterrelaw04_lives: function 14 -/
def parterrelaw04_lives.f  : Option (Bool) := (ident_Write.f (⟨#[49, 97]⟩ : ByteArray)).bind fun t279 => (if t279.toList = ([92, 51, 49, 32, 97] : List UInt8) then ((ident_Write.f (⟨#[97, 32, 98]⟩ : ByteArray)).bind fun t280 => (if t280.toList = ([97, 92, 32, 98] : List UInt8) then ((ident_Quote.f (⟨#[97, 34, 98]⟩ : ByteArray)).bind fun t281 => (some (t281.toList == ([34, 97, 92, 34, 98, 34] : List UInt8)))) else (some false))) else (some false))
set_option maxHeartbeats 8000000 in
set_option maxRecDepth 100000 in
theorem parterrelaw04_lives.calls  (r : Bool) (w : World) (h : parterrelaw04_lives.f  = some r) :
  Calls Try.prog 14 #[] w fun e w' => e = .returned (.bool r) ∧ Below w.heap.size w w' := by
 have HB := Aside0.mk (Below.refl w.heap.size w)
 have H : ((ident_Write.f (⟨#[49, 97]⟩ : ByteArray)).bind fun t279 => (if t279.toList = ([92, 51, 49, 32, 97] : List UInt8) then ((ident_Write.f (⟨#[97, 32, 98]⟩ : ByteArray)).bind fun t280 => (if t280.toList = ([97, 92, 32, 98] : List UInt8) then ((ident_Quote.f (⟨#[97, 34, 98]⟩ : ByteArray)).bind fun t281 => (some (t281.toList == ([34, 97, 92, 34, 98, 34] : List UInt8)))) else (some false))) else (some false))) = some r := h
 clear h
 replace H := Option.bind_eq_some_iff.mp H
 obtain ⟨t279, A10, H⟩ := H
 try dsimp only at H
 have A1 := Aside0.mk A10
 clear A10
 by_cases c2 : t279.toList = ([92, 51, 49, 32, 97] : List UInt8)
 ·rw [if_pos c2] at H
  have c2b0 : (t279.toList == ([92, 51, 49, 32, 97] : List UInt8)) = true := beq_iff_eq.mpr c2
  have c2b1 : (t279.toList != ([92, 51, 49, 32, 97] : List UInt8)) = false := bne_eq_false_iff_eq.mpr c2
  clear c2
  replace H := Option.bind_eq_some_iff.mp H
  obtain ⟨t280, A30, H⟩ := H
  try dsimp only at H
  have A3 := Aside0.mk A30
  clear A30
  by_cases c4 : t280.toList = ([97, 92, 32, 98] : List UInt8)
  ·rw [if_pos c4] at H
   have c4b0 : (t280.toList == ([97, 92, 32, 98] : List UInt8)) = true := beq_iff_eq.mpr c4
   have c4b1 : (t280.toList != ([97, 92, 32, 98] : List UInt8)) = false := bne_eq_false_iff_eq.mpr c4
   clear c4
   replace H := Option.bind_eq_some_iff.mp H
   obtain ⟨t281, A50, H⟩ := H
   try dsimp only at H
   have A5 := Aside0.mk A50
   clear A50
   obtain rfl := Option.some.inj H
   go_enter Try.func14, Try.ntmps14
   go_wp2_with (first | ((with_reducible refine gate_callee (f := 15) rfl ?_); refine goesL_ (some 1) rfl rfl Try.func15 (by kernel_rfl) rfl #[.string (⟨#[49, 97]⟩ : ByteArray)] rfl goa_ ?_; (with_reducible refine (ident_Write.calls (⟨#[49, 97]⟩ : ByteArray) t279 _ A1.out).mono ?_); rintro e w6 ⟨rfl, hb⟩; refine ⟨_, rfl, ?_⟩; have n0_ := Aside0.mk (below_step bel_ hb); clear HB; have HB := n0_; clear n0_; clear hb) | (go_at_call 15; (with_reducible refine (ident_Write.calls (⟨#[97, 32, 98]⟩ : ByteArray) t280 _ A3.out).mono ?_); rintro e w7 ⟨rfl, hb⟩; have n0_ := Aside0.mk (below_step bel_ hb); clear HB; have HB := n0_; clear n0_; clear hb) | (go_at_call 17; (with_reducible refine (ident_Quote.calls (⟨#[97, 34, 98]⟩ : ByteArray) t281 _ A5.out).mono ?_); rintro e w8 ⟨rfl, hb⟩; have n0_ := Aside0.mk (below_step bel_ hb); clear HB; have HB := n0_; clear n0_; clear hb))
   go_ret
   exact ⟨rsl_, bel_⟩
  ·rw [if_neg c4] at H
   have c4b0 : (t280.toList == ([97, 92, 32, 98] : List UInt8)) = false := beq_eq_false_iff_ne.mpr c4
   have c4b1 : (t280.toList != ([97, 92, 32, 98] : List UInt8)) = true := bne_iff_ne.mpr c4
   obtain rfl := Option.some.inj H
   go_enter Try.func14, Try.ntmps14
   go_wp2_with (first | ((with_reducible refine gate_callee (f := 15) rfl ?_); refine goesL_ (some 1) rfl rfl Try.func15 (by kernel_rfl) rfl #[.string (⟨#[49, 97]⟩ : ByteArray)] rfl goa_ ?_; (with_reducible refine (ident_Write.calls (⟨#[49, 97]⟩ : ByteArray) t279 _ A1.out).mono ?_); rintro e w9 ⟨rfl, hb⟩; refine ⟨_, rfl, ?_⟩; have n0_ := Aside0.mk (below_step bel_ hb); clear HB; have HB := n0_; clear n0_; clear hb) | (go_at_call 15; (with_reducible refine (ident_Write.calls (⟨#[97, 32, 98]⟩ : ByteArray) t280 _ A3.out).mono ?_); rintro e w10 ⟨rfl, hb⟩; have n0_ := Aside0.mk (below_step bel_ hb); clear HB; have HB := n0_; clear n0_; clear hb))
   go_ret
   exact ⟨rsl_, bel_⟩
 ·rw [if_neg c2] at H
  have c2b0 : (t279.toList == ([92, 51, 49, 32, 97] : List UInt8)) = false := beq_eq_false_iff_ne.mpr c2
  have c2b1 : (t279.toList != ([92, 51, 49, 32, 97] : List UInt8)) = true := bne_iff_ne.mpr c2
  obtain rfl := Option.some.inj H
  go_enter Try.func14, Try.ntmps14
  go_wp2_with (first | ((with_reducible refine gate_callee (f := 15) rfl ?_); refine goesL_ (some 1) rfl rfl Try.func15 (by kernel_rfl) rfl #[.string (⟨#[49, 97]⟩ : ByteArray)] rfl goa_ ?_; (with_reducible refine (ident_Write.calls (⟨#[49, 97]⟩ : ByteArray) t279 _ A1.out).mono ?_); rintro e w11 ⟨rfl, hb⟩; refine ⟨_, rfl, ?_⟩; have n0_ := Aside0.mk (below_step bel_ hb); clear HB; have HB := n0_; clear n0_; clear hb))
  go_ret
  exact ⟨rsl_, bel_⟩

end Go.Proofs.Ytfccpnpocfjbcaa.PTk
