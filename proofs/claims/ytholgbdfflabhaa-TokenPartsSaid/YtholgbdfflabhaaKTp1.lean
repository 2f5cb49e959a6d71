/- TokenPartsSaid, part 2 of 7: contracts of the program's functions, the words that they use, and the plain laws on what they compute. Conditions: none beyond what the statements say. -/
import Derived.Test.YtholgbdfflabhaaKTp0
import Derived.Test.YtholgbdfflabhaaProg
import Derived.Below
import Derived.Deep.Draws
import Derived.Deep.AppendLies
import Derived.Maps.AppendAt
import Derived.OwnWalk
import Derived.Laws.BytesArg
import Derived.Laws.MakeOwn
import Derived.Laws.OwnMore
import Derived.Deep.OwnRows
import Derived.Tactics
import Derived.Lib.ConvBytes
import Derived.Laws.Slices
import Derived.WalkKit
import Derived.KernelRfl
import Derived.RowKit3
import Derived.Deep.LoopGhost
import Derived.Deep.QuietTactic
import Derived.BigQuiet
import Derived.WideLaws
import Derived.Deep.DeepCutAuto
import Derived.Deep.CutBlock
import Derived.Deep.RegionHeld3
import Derived.Laws.Rows
import Derived.Lib.AppendStr
import Derived.ArgAppend
import Derived.Laws.IdiomCopy
import Derived.OrdersHeld
import Derived.Laws.BitsLemmas
import Derived.RowKit
import Derived.Shelf.Strings.Builder1
import Derived.Shelf.Small.Strs
import Derived.Shelf.Strings.Search1
import Derived.Shelf.Strings.Search2
import Derived.Shelf.Strings.Search3
import Derived.Shelf.LaysM
import Derived.Shelf.Strings.Shaped
import Derived.BigRegion
import Derived.Lib.Strings
import Derived.Lib.Slices
import Derived.Lib.Walk
import Derived.Lib.Builder
import Derived.Lib.UnsafeStr
import Derived.Laws.Externs
import Derived.Outline
set_option linter.unusedVariables false
set_option linter.unusedSimpArgs false
section
namespace Go.Proofs.Ytholgbdfflabhaa.PTk
open Go.RowKit Go.Proofs.YtholgbdfflabhaaW.PrintWords Go.Proofs.YtholgbdfflabhaaW.PrintLast Go.Proofs.YtholgbdfflabhaaW.PrintMore
attribute [local go_sem] max2_int min2_int max_two min_two max_three min_three max_four min_four
open Go.Proofs.Ytholgbdfflabhaa.Opn Go.Proofs.Ytholgbdfflabhaa.Giv



def errW : Option Int → Value
 | none => .nilIface
 | some c => .iface 0 (.int .i64 c)
theorem errW_none : errW none = .nilIface := rfl
theorem errW_some (c : Int) : errW (some c) = .iface 0 (.int .i64 c) := rfl

theorem info5 : (Try.prog.info? 5).map (fun i => (i.zero, i.size, i.bytes)) = some (some (.int .u8 0), 1, 1) := by kernel_rfl
-- the values' own types
/-! #### struct type 48 -/
structure S48 where
 f0 : Bool
 f1 : ByteArray
 f2 : ByteArray
 f3 : ByteArray
 f4 : Int
/-! #### struct type 29 -/
structure S29 where
 f0 : Int
 f1 : Int
 f2 : ByteArray
 f3 : ByteArray
def z29 : S29 := ⟨(0 : Int), (0 : Int), (⟨#[]⟩ : ByteArray), (⟨#[]⟩ : ByteArray)⟩
def k29 : Kd S29 := Kd.iso (Kd.pair (Kd.int .i64) (Kd.pair (Kd.int .i64) (Kd.pair Kd.string Kd.string))) (fun x : S29 => (x.f0, x.f1, x.f2, x.f3))
theorem k29_open {w : World} {x : S29} {cs : List Value} (h : k29.K w x cs) : cs = [.int .i64 x.f0, .int .i64 x.f1, .string x.f2, .string x.f3] := by
 obtain ⟨_, _, rfl, rfl, ⟨_, _, rfl, rfl, ⟨_, _, rfl, rfl, rfl⟩⟩⟩ := h
 exact rfl
theorem k29_mkM (w : World) (base : Nat) (ok : Nat → Prop) (x : S29)  : k29.M w base ok x [.int .i64 x.f0, .int .i64 x.f1, .string x.f2, .string x.f3] := ⟨[.int .i64 x.f0], [.int .i64 x.f1, .string x.f2, .string x.f3], rfl, rfl, ⟨[.int .i64 x.f1], [.string x.f2, .string x.f3], rfl, rfl, ⟨[.string x.f2], [.string x.f3], rfl, rfl, rfl⟩⟩⟩
def rd_T29 (xs : List S29) (i : Int) : S29 := xs.getD i.toNat z29
theorem at_T29 {w : World} {A : Option Addr} {n : Nat} {xs : List S29} (h : Kd.C k29 w A n xs) (i : Int) (h0 : 0 ≤ i) (h1 : i < n) : ∃ ad , A = some ad ∧ w.cell? (ad.add (i.toNat * 4)) = some (.int .i64 (rd_T29 xs i).f0) ∧ w.cell? ⟨(ad.add (i.toNat * 4)).block, (ad.add (i.toNat * 4)).off + 1, none⟩ = some (.int .i64 (rd_T29 xs i).f1) ∧ w.cell? ⟨(ad.add (i.toNat * 4)).block, (ad.add (i.toNat * 4)).off + 2, none⟩ = some (.string (rd_T29 xs i).f2) ∧ w.cell? ⟨(ad.add (i.toNat * 4)).block, (ad.add (i.toNat * 4)).off + 3, none⟩ = some (.string (rd_T29 xs i).f3) := by
 obtain ⟨ad, c, e, _, hK, hc0⟩ := Kd.C_get h z29 i h0 h1
 have hc : ∀ j u, c[j]? = some u → w.cell? (ad.add (i.toNat * 4 + j)) = some u := hc0
 obtain rfl := k29_open hK
 exact ⟨ad, e, hc 0 _ rfl, by rw [← add_field _ _ 1 (by omega)]; exact hc 1 _ rfl, by rw [← add_field _ _ 2 (by omega)]; exact hc 2 _ rfl, by rw [← add_field _ _ 3 (by omega)]; exact hc 3 _ rfl⟩

end Go.Proofs.Ytholgbdfflabhaa.PTk
end
section
namespace Go.Proofs.Ytholgbdfflabhaa.PTk
open Go.RowKit Go.Proofs.YtholgbdfflabhaaW.PrintWords Go.Proofs.YtholgbdfflabhaaW.PrintLast Go.Proofs.YtholgbdfflabhaaW.PrintMore
attribute [local go_sem] max2_int min2_int max_two min_two max_three min_three max_four min_four
open Go.Proofs.Ytholgbdfflabhaa.Opn Go.Proofs.Ytholgbdfflabhaa.Giv

theorem eqA29 (d : Nat) (w : World) (x0 y0 : Int) (x1 y1 : Int) (x2 y2 : ByteArray) (x3 y3 : ByteArray) :
  (Op.equalIn (d + 2) 29 (.agg #[.int .i64 x0, .int .i64 x1, .string x2, .string x3]) (.agg #[.int .i64 y0, .int .i64 y1, .string y2, .string y3])).run Try.prog w = .ok (x0 == y0 && (x1 == y1 && (x2.toList == y2.toList && (x3.toList == y3.toList)))) w := by
 refine eqA_of Try.underlying29 (by kernel_rfl) ?_
 refine eqf_cons (by rfl) (by go_simp; rfl) (by go_simp; rfl) (by go_simp) ?_
 refine eqf_cons (by rfl) (by go_simp; rfl) (by go_simp; rfl) (by go_simp) ?_
 refine eqf_cons (by rfl) (by go_simp; rfl) (by go_simp; rfl) (by go_simp) ?_
 exact eqf_last (by rfl) (by go_simp; rfl) (by go_simp; rfl) (by go_simp)
end Go.Proofs.Ytholgbdfflabhaa.PTk
end
section
namespace Go.Proofs.Ytholgbdfflabhaa.PTk
open Go.RowKit Go.Proofs.YtholgbdfflabhaaW.PrintWords Go.Proofs.YtholgbdfflabhaaW.PrintLast Go.Proofs.YtholgbdfflabhaaW.PrintMore
attribute [local go_sem] max2_int min2_int max_two min_two max_three min_three max_four min_four
open Go.Proofs.Ytholgbdfflabhaa.Opn Go.Proofs.Ytholgbdfflabhaa.Giv

/-! ### token_feed: function 22 -/
def token_feed.f (a0 : Int) : Option (Bool) := if a0 = 10 then (some true) else (if a0 = 13 then (some true) else (some (a0 == 12)))
set_option maxHeartbeats 8000000 in
set_option maxRecDepth 100000 in
theorem token_feed.calls (a0 : Int) (r : Bool) (w : World) (h : token_feed.f a0 = some r) :
  Calls Try.prog 22 #[.int .u8 a0] w fun e w' => e = .returned (.bool r) ∧ Drawn0 w w' := by
 have H : (if a0 = 10 then (some true) else (if a0 = 13 then (some true) else (some (a0 == 12)))) = some r := h
 clear h
 by_cases c2 : a0 = 10
 ·rw [if_pos c2] at H
  have c2b0 : (a0 == 10) = true := beq_iff_eq.mpr c2
  have c2b1 : (a0 != 10) = false := bne_eq_false_iff_eq.mpr c2
  clear c2
  obtain rfl := Option.some.inj H
  go_enter Try.func22, Try.ntmps22
  go_wp2
  go_ret
  exact ⟨by first | rfl | (simp; done) | (simp [*]; done), drs_⟩
 ·rw [if_neg c2] at H
  have c2b0 : (a0 == 10) = false := beq_eq_false_iff_ne.mpr c2
  have c2b1 : (a0 != 10) = true := bne_iff_ne.mpr c2
  by_cases c3 : a0 = 13
  ·rw [if_pos c3] at H
   have c3b0 : (a0 == 13) = true := beq_iff_eq.mpr c3
   have c3b1 : (a0 != 13) = false := bne_eq_false_iff_eq.mpr c3
   clear c3
   obtain rfl := Option.some.inj H
   go_enter Try.func22, Try.ntmps22
   go_wp2
   go_ret
   exact ⟨by first | rfl | (simp; done) | (simp [*]; done), drs_⟩
  ·rw [if_neg c3] at H
   have c3b0 : (a0 == 13) = false := beq_eq_false_iff_ne.mpr c3
   have c3b1 : (a0 != 13) = true := bne_iff_ne.mpr c3
   obtain rfl := Option.some.inj H
   go_enter Try.func22, Try.ntmps22
   go_wp2
   go_ret
   exact ⟨by first | rfl | (simp; done) | (simp [*]; done), drs_⟩

/-! ### token_blank: function 11 -/
def token_blank.f (a0 : Int) : Option (Bool) := if a0 = 32 then (some true) else (if a0 = 9 then (some true) else ((token_feed.f a0).bind fun t101 => (some t101)))
set_option maxHeartbeats 8000000 in
set_option maxRecDepth 100000 in
theorem token_blank.calls (a0 : Int) (r : Bool) (w : World) (h : token_blank.f a0 = some r) :
  Calls Try.prog 11 #[.int .u8 a0] w fun e w' => e = .returned (.bool r) ∧ Drawn0 w w' := by
 have H : (if a0 = 32 then (some true) else (if a0 = 9 then (some true) else ((token_feed.f a0).bind fun t101 => (some t101)))) = some r := h
 clear h
 by_cases c2 : a0 = 32
 ·rw [if_pos c2] at H
  have c2b0 : (a0 == 32) = true := beq_iff_eq.mpr c2
  have c2b1 : (a0 != 32) = false := bne_eq_false_iff_eq.mpr c2
  clear c2
  obtain rfl := Option.some.inj H
  go_enter Try.func11, Try.ntmps11
  go_wp2
  go_ret
  exact ⟨by first | rfl | (simp; done) | (simp [*]; done), drs_⟩
 ·rw [if_neg c2] at H
  have c2b0 : (a0 == 32) = false := beq_eq_false_iff_ne.mpr c2
  have c2b1 : (a0 != 32) = true := bne_iff_ne.mpr c2
  by_cases c3 : a0 = 9
  ·rw [if_pos c3] at H
   have c3b0 : (a0 == 9) = true := beq_iff_eq.mpr c3
   have c3b1 : (a0 != 9) = false := bne_eq_false_iff_eq.mpr c3
   clear c3
   obtain rfl := Option.some.inj H
   go_enter Try.func11, Try.ntmps11
   go_wp2
   go_ret
   exact ⟨by first | rfl | (simp; done) | (simp [*]; done), drs_⟩
  ·rw [if_neg c3] at H
   have c3b0 : (a0 == 9) = false := beq_eq_false_iff_ne.mpr c3
   have c3b1 : (a0 != 9) = true := bne_iff_ne.mpr c3
   replace H := Option.bind_eq_some_iff.mp H
   obtain ⟨t101, A40, H⟩ := H
   try dsimp only at H
   have A4 := Aside0.mk A40
   clear A40
   obtain rfl := Option.some.inj H
   go_enter Try.func11, Try.ntmps11
   go_wp2_with (first | (go_at_call 22; (with_reducible refine (token_feed.calls a0 t101 _ A4.out).mono ?_); rintro e w' ⟨rfl, ⟨nd, rfl⟩⟩))
   go_ret
   exact ⟨by first | rfl | (simp; done) | (simp [*]; done), drs_⟩

/-! ### stringslite_HasPrefix: function 23 -/
def stringslite_HasPrefix.f (a0 : ByteArray) (a1 : ByteArray) : Option (Bool) := if (a0.size : Int) ≥ (a1.size : Int) then (if 0 ≤ (a1.size : Int) then (if (a1.size : Int) ≤ (a0.size : Int) then (some ((a0.extract 0 ((a1.size : Int) : Int).toNat).toList == a1.toList)) else (none)) else (none)) else (some false)
set_option maxHeartbeats 8000000 in
set_option maxRecDepth 100000 in
theorem stringslite_HasPrefix.calls (a0 : ByteArray) (a1 : ByteArray) (r : Bool) (w : World) (h : stringslite_HasPrefix.f a0 a1 = some r) :
  Calls Try.prog 23 #[.string a0, .string a1] w fun e w' => e = .returned (.bool r) ∧ Drawn0 w w' := by
 have H : (if (a0.size : Int) ≥ (a1.size : Int) then (if 0 ≤ (a1.size : Int) then (if (a1.size : Int) ≤ (a0.size : Int) then (some ((a0.extract 0 ((a1.size : Int) : Int).toNat).toList == a1.toList)) else (none)) else (none)) else (some false)) = some r := h
 clear h
 by_cases c3 : (a0.size : Int) ≥ (a1.size : Int)
 ·rw [if_pos c3] at H
  have c3b0 : decide ((a1.size : Int) ≤ (a0.size : Int)) = true := decide_eq_true c3
  have c3b1 : decide (a1.size ≤ a0.size) = true := decide_eq_true (Int.ofNat_le.mp c3)
  clear c3
  by_cases c4 : 0 ≤ (a1.size : Int)
  ·rw [if_pos c4] at H
   have c4b0 := eq_true c4
   have c4b1 : decide (0 ≤ (a1.size : Int)) = true := decide_eq_true c4
   clear c4
   by_cases c5 : (a1.size : Int) ≤ (a0.size : Int)
   ·rw [if_pos c5] at H
    have c5b0 := eq_true c5
    have c5b1 : decide ((a1.size : Int) ≤ (a0.size : Int)) = true := decide_eq_true c5
    clear c5
    obtain rfl := Option.some.inj H
    go_enter Try.func23, Try.ntmps23
    go_wp2
    go_ret
    exact ⟨by first | rfl | (simp; done) | (simp [*]; done), drs_⟩
   ·rw [if_neg c5] at H
    exact absurd H (by simp)
  ·rw [if_neg c4] at H
   exact absurd H (by simp)
 ·rw [if_neg c3] at H
  have c3b0 : decide ((a1.size : Int) ≤ (a0.size : Int)) = false := decide_eq_false c3
  have c3b1 : decide (a1.size ≤ a0.size) = false := decide_eq_false (fun h => c3 (Int.ofNat_le.mpr h))
  clear c3
  obtain rfl := Option.some.inj H
  go_enter Try.func23, Try.ntmps23
  go_wp2
  go_ret
  exact ⟨by first | rfl | (simp; done) | (simp [*]; done), drs_⟩

/-! ### strings_HasPrefix: function 12 -/
def strings_HasPrefix.f (a0 : ByteArray) (a1 : ByteArray) : Option (Bool) := (stringslite_HasPrefix.f a0 a1).bind fun t102 => (some t102)
set_option maxHeartbeats 8000000 in
set_option maxRecDepth 100000 in
theorem strings_HasPrefix.calls (a0 : ByteArray) (a1 : ByteArray) (r : Bool) (w : World) (h : strings_HasPrefix.f a0 a1 = some r) :
  Calls Try.prog 12 #[.string a0, .string a1] w fun e w' => e = .returned (.bool r) ∧ Drawn0 w w' := by
 have H : ((stringslite_HasPrefix.f a0 a1).bind fun t102 => (some t102)) = some r := h
 clear h
 replace H := Option.bind_eq_some_iff.mp H
 obtain ⟨t102, A30, H⟩ := H
 try dsimp only at H
 have A3 := Aside0.mk A30
 clear A30
 obtain rfl := Option.some.inj H
 go_enter Try.func12, Try.ntmps12
 go_wp2_with (first | ((with_reducible refine gate_callee (f := 23) rfl ?_); refine goesL_ (some 7) rfl rfl Try.func23 (by kernel_rfl) rfl #[.string a0, .string a1] rfl goa_ ?_; (with_reducible refine (stringslite_HasPrefix.calls a0 a1 t102 _ A3.out).mono ?_); rintro e w' ⟨rfl, ⟨nd, rfl⟩⟩; refine ⟨_, rfl, ?_⟩))
 go_ret
 exact ⟨by first | rfl | (simp; done) | (simp [*]; done), drs_⟩

/-! ### number_digit: function 42 -/
def number_digit.f (a0 : Int) : Option (Bool) := if a0 ≥ 48 then (some (decide (a0 ≤ 57))) else (some false)
set_option maxHeartbeats 8000000 in
set_option maxRecDepth 100000 in
theorem number_digit.calls (a0 : Int) (r : Bool) (w : World) (h : number_digit.f a0 = some r) :
  Calls Try.prog 42 #[.int .u8 a0] w fun e w' => e = .returned (.bool r) ∧ Drawn0 w w' := by
 have H : (if a0 ≥ 48 then (some (decide (a0 ≤ 57))) else (some false)) = some r := h
 clear h
 by_cases c2 : a0 ≥ 48
 ·rw [if_pos c2] at H
  have c2b0 : decide (48 ≤ a0) = true := decide_eq_true c2
  clear c2
  obtain rfl := Option.some.inj H
  go_enter Try.func42, Try.ntmps42
  go_wp2
  go_ret
  exact ⟨by first | rfl | (simp; done) | (simp [*]; done), drs_⟩
 ·rw [if_neg c2] at H
  have c2b0 : decide (48 ≤ a0) = false := decide_eq_false c2
  clear c2
  obtain rfl := Option.some.inj H
  go_enter Try.func42, Try.ntmps42
  go_wp2
  go_ret
  exact ⟨by first | rfl | (simp; done) | (simp [*]; done), drs_⟩

end Go.Proofs.Ytholgbdfflabhaa.PTk
end
section
/- Contracts of the library's functions that this place's programs call, laid by the kit's shelf in plain words. -/
namespace Go.Proofs
open Go.Shelf
def Try.lays169_ren : Go.Shelf.Ren := ⟨fun | 169 => 34 | n => n, fun | 70 => 51 | 9 => 9 | 0 => 0 | 72 => 53 | 37 => 22 | 127 => 65 | 3 => 3 | 5 => 5 | n => n, fun | n => n⟩
theorem Try.lays169 : Go.Proofs.Lays.n169 Try.prog Try.lays169_ren := {
  mixed := by kernel_rfl
  f169 := Try.func34.trans (congrArg some (by kernel_rfl))
  t0 := Try.underlying0
  a0 := Try.isAgg0
  z0 := Try.sizeOf0
  v0 := Try.zeroValue0
  t3 := Try.underlying3
  a3 := Try.isAgg3
  z3 := Try.sizeOf3
  v3 := Try.zeroValue3
  t9 := Try.underlying9
  a9 := Try.isAgg9
  z9 := Try.sizeOf9
  v9 := Try.zeroValue9
  t37 := Try.underlying22
  a37 := Try.isAgg22
  z37 := Try.sizeOf22
  v37 := Try.zeroValue22
  t70 := Try.underlying51
  a70 := Try.isAgg51
  z70 := Try.sizeOf51
  v70 := Try.zeroValue51
  t72 := Try.underlying53
  a72 := Try.isAgg53
  z72 := Try.sizeOf53
  v72 := Try.zeroValue53
  t127 := Try.underlying65
  a127 := Try.isAgg65
  z127 := Try.sizeOf65
  v127 := Try.zeroValue65 }
theorem Try.Builder_Extra_169 : Builder.Extra Try.prog Try.lays169_ren := {
  sizeBuilder := by kernel_rfl
  liesBuilder := by kernel_rfl
  t5 := Try.underlying5
  a5 := Try.isAgg5
  z5 := Try.sizeOf5
  v5 := Try.zeroValue5
  infoByte := by kernel_rfl
  cellsByte := by kernel_rfl
  sizeByte := by kernel_rfl
  neB5 := by decide }
open Go.RowKit in
/-- (*strings.Builder).String: "String returns the accumulated string.": WHATEVER THE BUILDER HOLDS. (LAID: no walk: one application.) -/
theorem Try.Builder_String_any (B b : Nat) (l : List UInt8) (w : World) (h : Lib.IsBuilder 53 5 B b (Lib.byteCells l) w) (hBw : B ≤ w.heap.size) :
    Calls Try.prog 34 #[.pointer (some ⟨b, 0, none⟩)] w fun e w' => e = .returned (.string ⟨l.toArray⟩) ∧ Below B w w' := Any.Builder_String_any Try.lays169 Try.Builder_Extra_169 B b l w h hBw
def Try.lays137_ren : Go.Shelf.Ren := ⟨fun | 137 => 21 | 217 => 36 | 266 => 46 | n => n, fun | 9 => 9 | 5 => 5 | 3 => 3 | n => n, fun | n => n⟩
theorem Try.lays137 : Go.Proofs.Lays.n137 Try.prog Try.lays137_ren := {
  mixed := by kernel_rfl
  f137 := Try.func21.trans (congrArg some (by kernel_rfl))
  f217 := Try.func36.trans (congrArg some (by kernel_rfl))
  f266 := Try.func46.trans (congrArg some (by kernel_rfl))
  t3 := Try.underlying3
  a3 := Try.isAgg3
  z3 := Try.sizeOf3
  v3 := Try.zeroValue3
  t5 := Try.underlying5
  a5 := Try.isAgg5
  z5 := Try.sizeOf5
  v5 := Try.zeroValue5
  t9 := Try.underlying9
  a9 := Try.isAgg9
  z9 := Try.sizeOf9
  v9 := Try.zeroValue9 }
open Go.RowKit in
/-- strings.IndexByte: "IndexByte returns the index of the first instance of c in s, or -1 if c is not present in s.": IT RETURNS 'Lib.indexByte s c'; the world is as it was. (LAID: no walk: one application.) -/
theorem Try.strings_IndexByte (s : ByteArray) (c : Int) (w : World) :
    Calls Try.prog 21 #[.string s, .int .u8 c] w fun e w' => e = .returned (.int .i64 (Lib.indexByte s.data.toList c.toNat.toUInt8)) ∧ w' = w := Any.strings_IndexByte Try.lays137 s c w
def Try.lays143_ren : Go.Shelf.Ren := ⟨fun | 143 => 13 | 219 => 24 | 217 => 36 | 225 => 37 | 224 => 38 | 267 => 39 | 266 => 46 | 314 => 47 | n => n, fun | 9 => 9 | 3 => 3 | 4 => 4 | 5 => 5 | 46 => 62 | 146 => 67 | 51 => 66 | n => n, fun | 1 => 0 | n => n⟩
theorem Try.lays143 : Go.Proofs.Lays.n143 Try.prog Try.lays143_ren := {
  mixed := by kernel_rfl
  f143 := Try.func13.trans (congrArg some (by kernel_rfl))
  f217 := Try.func36.trans (congrArg some (by kernel_rfl))
  f219 := Try.func24.trans (congrArg some (by kernel_rfl))
  f224 := Try.func38.trans (congrArg some (by kernel_rfl))
  f225 := Try.func37.trans (congrArg some (by kernel_rfl))
  f266 := Try.func46.trans (congrArg some (by kernel_rfl))
  f267 := Try.func39.trans (congrArg some (by kernel_rfl))
  f314 := Try.func47.trans (congrArg some (by kernel_rfl))
  t3 := Try.underlying3
  a3 := Try.isAgg3
  z3 := Try.sizeOf3
  v3 := Try.zeroValue3
  t4 := Try.underlying4
  a4 := Try.isAgg4
  z4 := Try.sizeOf4
  v4 := Try.zeroValue4
  t5 := Try.underlying5
  a5 := Try.isAgg5
  z5 := Try.sizeOf5
  v5 := Try.zeroValue5
  t9 := Try.underlying9
  a9 := Try.isAgg9
  z9 := Try.sizeOf9
  v9 := Try.zeroValue9
  t46 := Try.underlying62
  a46 := Try.isAgg62
  z46 := Try.sizeOf62
  v46 := Try.zeroValue62
  t51 := Try.underlying66
  a51 := Try.isAgg66
  z51 := Try.sizeOf66
  v51 := Try.zeroValue66
  t146 := Try.underlying67
  a146 := Try.isAgg67
  z146 := Try.sizeOf67
  v146 := Try.zeroValue67
  g1 := by kernel_rfl }
open Go.RowKit Go.Lib in
/-- strings.Index: "Index returns the index of the first instance of substr in s, or -1 if substr is not present in s.": IT RETURNS 'Lib.index s substr'; the world is as it was. (LAID: no walk: one application.) -/
theorem Try.strings_Index (s sub : ByteArray) (m : Int) (w : World) (hs : s.size < 4294967281) (hm : w.cell? ⟨0, 0, none⟩ = some (.int .i64 m)) :
    Calls Try.prog 13 #[.string s, .string sub] w fun e w' => e = .returned (.int .i64 (Lib.index s.data.toList sub.data.toList)) ∧ w' = w := Any.strings_Index Try.lays143 s sub m w hs hm
def Try.laysM143_ren : Go.Shelf.Ren := ⟨fun | 143 => 13 | 219 => 24 | 217 => 36 | 225 => 37 | 224 => 38 | 267 => 39 | 266 => 46 | 314 => 47 | n => n, fun | 9 => 9 | 3 => 3 | 4 => 4 | 5 => 5 | 46 => 62 | 146 => 67 | 51 => 66 | n => n, fun | 1 => 0 | n => n⟩
theorem Try.laysM143 : Go.Proofs.LaysM.n143 Try.prog Try.laysM143_ren := {
  mixed := by kernel_rfl
  f143 := Try.func13.trans (congrArg some (by kernel_rfl))
  f217 := Try.func36.trans (congrArg some (by kernel_rfl))
  f219 := Try.func24.trans (congrArg some (by kernel_rfl))
  f224 := Try.func38.trans (congrArg some (by kernel_rfl))
  f225 := Try.func37.trans (congrArg some (by kernel_rfl))
  f266 := Try.func46.trans (congrArg some (by kernel_rfl))
  f267 := Try.func39.trans (congrArg some (by kernel_rfl))
  f314 := Try.func47.trans (congrArg some (by kernel_rfl))
  t3 := Try.underlying3
  a3 := Try.isAgg3
  z3 := Try.sizeOf3
  v3 := Try.zeroValue3
  t4 := Try.underlying4
  a4 := Try.isAgg4
  z4 := Try.sizeOf4
  v4 := Try.zeroValue4
  t5 := Try.underlying5
  a5 := Try.isAgg5
  z5 := Try.sizeOf5
  v5 := Try.zeroValue5
  t9 := Try.underlying9
  a9 := Try.isAgg9
  z9 := Try.sizeOf9
  v9 := Try.zeroValue9
  t46 := Try.underlying62
  a46 := Try.isAgg62
  z46 := Try.sizeOf62
  v46 := Try.zeroValue62
  t51 := Try.underlying66
  a51 := Try.isAgg66
  z51 := Try.sizeOf66
  v51 := Try.zeroValue66
  t146 := Try.underlying67
  a146 := Try.isAgg67
  z146 := Try.sizeOf67
  v146 := Try.zeroValue67
  g1 := by kernel_rfl
  i3 := by kernel_rfl
  i4 := by kernel_rfl
  i5 := by kernel_rfl
  i9 := by kernel_rfl
  i46 := by kernel_rfl
  i51 := by kernel_rfl
  i146 := by kernel_rfl
  m1 := by kernel_rfl
  s1_3 := fun w h => Go.Proofs.cell_of_shapedOpen_int (zero := #[.int .i64 0]) (t := 3) h (of_decide_eq_true (by kernel_rfl)) (by kernel_rfl) rfl (by kernel_rfl) (by kernel_rfl) Try.underlying3 }
end Go.Proofs
end
section
namespace Go.Proofs.Ytholgbdfflabhaa.PTk
open Go.RowKit Go.Proofs.YtholgbdfflabhaaW.PrintWords Go.Proofs.YtholgbdfflabhaaW.PrintLast Go.Proofs.YtholgbdfflabhaaW.PrintMore
attribute [local go_sem] max2_int min2_int max_two min_two max_three min_three max_four min_four
open Go.Proofs.Ytholgbdfflabhaa.Opn Go.Proofs.Ytholgbdfflabhaa.Giv

/-! ### number_parts: function 25 -/
/-- Where the digits end that begin at a place (d: how many bytes there still are). -/
def number_parts.stopF (s : ByteArray) : Nat → Nat → Nat
 | 0, i => i
 | d + 1, i => if number_digit.f (bt s (i : Nat)) = some true then number_parts.stopF s d (i + 1) else i
def number_parts.stop (s : ByteArray) (i : Nat) : Nat := number_parts.stopF s (s.size - i) i
theorem number_parts.stopF_bd (s : ByteArray) : ∀ d i : Nat, i + d ≤ s.size → i ≤ number_parts.stopF s d i ∧ number_parts.stopF s d i ≤ i + d
 | 0, i, _ => ⟨Nat.le_refl _, Nat.le_refl _⟩
 | d + 1, i, h => by
  simp only [number_parts.stopF]
  split
  ·have := number_parts.stopF_bd s d (i + 1) (by omega)
   omega
  ·omega
theorem number_parts.stop_bd (s : ByteArray) (i : Nat) (h : i ≤ s.size) : i ≤ number_parts.stop s i ∧ number_parts.stop s i ≤ s.size := by
 have := number_parts.stopF_bd s (s.size - i) i (by omega)
 unfold number_parts.stop
 omega
theorem number_parts.stop_next (s : ByteArray) (i : Nat) (h : i < s.size) (hd : number_digit.f (bt s (i : Nat)) = some true) : number_parts.stop s i = number_parts.stop s (i + 1) := by
 unfold number_parts.stop
 rw [show s.size - i = (s.size - (i + 1)) + 1 by omega]
 simp only [number_parts.stopF]
 rw [if_pos hd]
theorem number_parts.stop_here (s : ByteArray) (i : Nat) (h : i < s.size) (hd : number_digit.f (bt s (i : Nat)) ≠ some true) : number_parts.stop s i = i := by
 unfold number_parts.stop
 rw [show s.size - i = (s.size - (i + 1)) + 1 by omega]
 simp only [number_parts.stopF]
 rw [if_neg hd]
theorem number_parts.stop_end (s : ByteArray) : number_parts.stop s s.size = s.size := by
 unfold number_parts.stop
 rw [Nat.sub_self]
 rfl
theorem number_parts.digit_is (c : Int) : ∃ b, number_digit.f c = some b := by
 unfold number_digit.f
 split <;> exact ⟨_, rfl⟩
def number_parts.isSign (s : ByteArray) (i : Nat) : Bool := decide (i < s.size) && (bt s (i : Nat) == 43 || bt s (i : Nat) == 45)
def number_parts.sgn (s : ByteArray) (i : Nat) : Nat := if number_parts.isSign s i = true then i + 1 else i
def number_parts.neg (s : ByteArray) (i : Nat) : Bool := number_parts.isSign s i && bt s (i : Nat) == 45
def number_parts.isDot (s : ByteArray) (i : Nat) : Bool := decide (i < s.size) && bt s (i : Nat) == 46
def number_parts.isE (s : ByteArray) (i : Nat) : Bool := decide (i < s.size) && (bt s (i : Nat) == 101 || bt s (i : Nat) == 69)
/-- Where the whole digits begin and end; where those behind the point end; where the exponent's digits begin and end. -/
def number_parts.w0 (s : ByteArray) : Nat := number_parts.sgn s 0
def number_parts.w1 (s : ByteArray) : Nat := number_parts.stop s (number_parts.w0 s)
def number_parts.p1 (s : ByteArray) : Nat := if number_parts.isDot s (number_parts.w1 s) = true then number_parts.stop s (number_parts.w1 s + 1) else number_parts.w1 s
def number_parts.part (s : ByteArray) : ByteArray := if number_parts.isDot s (number_parts.w1 s) = true then s.extract (number_parts.w1 s + 1) (number_parts.p1 s) else ⟨#[]⟩
def number_parts.at2 (s : ByteArray) : Nat := if number_parts.isDot s (number_parts.w1 s) = true then (if number_parts.p1 s = number_parts.w1 s + 1 then number_parts.w1 s else number_parts.p1 s) else number_parts.w1 s
def number_parts.x0 (s : ByteArray) : Nat := number_parts.sgn s (number_parts.at2 s + 1)
def number_parts.x1 (s : ByteArray) : Nat := number_parts.stop s (number_parts.x0 s)
def number_parts.hasE (s : ByteArray) : Bool := number_parts.isE s (number_parts.at2 s) && decide (number_parts.x0 s < number_parts.x1 s)
def number_parts.f (s : ByteArray) : Option (Bool × ByteArray × ByteArray × ByteArray × Int) :=
 if s.size ≤ 140737488351232 then
  (if number_parts.w1 s = number_parts.w0 s ∧ number_parts.at2 s = number_parts.w1 s then some (false, ⟨#[]⟩, ⟨#[]⟩, ⟨#[]⟩, 0)
  else some (number_parts.neg s 0, s.extract (number_parts.w0 s) (number_parts.w1 s), number_parts.part s,
   if number_parts.hasE s = true then s.extract (number_parts.at2 s + 1) (number_parts.x1 s) else ⟨#[]⟩,
   if number_parts.hasE s = true then (number_parts.x1 s : Int) else (number_parts.at2 s : Int)))
 else none

/-- The text's block, and the block of the place. -/
structure number_parts.Two (W : World) (gs ga : Nat) (s : ByteArray) (i : Nat) : Prop where
 hs : W.heap[gs]? = some (.cells #[.string s] 9 (0, 0))
 ha : W.heap[ga]? = some (.cells #[.int .i64 i] 3 (0, 0))
 lt : gs < ga
theorem number_parts.Two.set {W : World} {gs ga : Nat} {s : ByteArray} {i : Nat} (h : number_parts.Two W gs ga s i) (j : Nat) : number_parts.Two (W.setCell ⟨ga, 0, none⟩ (.int .i64 j)) gs ga s j :=
 ⟨blk_far h.hs (show gs ≠ ga from Nat.ne_of_lt h.lt) _, blk_put h.ha 0 _ rfl, h.lt⟩
theorem number_parts.Two.drewN {W : World} {gs ga : Nat} {s : ByteArray} {i : Nat} (h : number_parts.Two W gs ga s i) (n : Nat) : number_parts.Two (W.drewN n) gs ga s i := ⟨h.hs, h.ha, h.lt⟩
theorem number_parts.lower {g : Nat} {w W : World} (h : Below g w W) (v : Value) : Below g w (W.setCell ⟨g, 0, none⟩ v) := h.trans ⟨rfl, rfl, rfl, by simp [World.setCell], fun k hk => Below.heap_setCell W _ v k (show k ≠ g by omega)⟩
theorem number_parts.belowN {B : Nat} {a w : World} (h : Below B a w) (n : Nat) : Below B a (w.drewN n) := h.trans ⟨rfl, rfl, rfl, Nat.le_refl _, fun _ _ => rfl⟩
theorem number_parts.next {i n : Nat} (h1 : i < n) (hs : n ≤ 140737488351232) : wrap64 ((i : Int) + 1) = ((i + 1 : Nat) : Int) := by
 unfold wrap64
 omega

set_option maxHeartbeats 8000000 in
set_option maxRecDepth 100000 in
/-- parts' 'sign'. -/
theorem number_parts.sign_calls (s : ByteArray) (gs ga i : Nat) (w : World) (hs : s.size ≤ 140737488351232) (hi : i ≤ s.size) (h2 : number_parts.Two w gs ga s i) :
  Calls Try.prog 40 #[.pointer (some ⟨ga, 0, none⟩), .pointer (some ⟨gs, 0, none⟩)] w fun e w' => e = .returned (.bool (number_parts.neg s i)) ∧ Below ga w w' ∧ number_parts.Two w' gs ga s (number_parts.sgn s i) := by
 have H2 := Aside0.mk h2
 have HN := Aside0.mk hs
 have hcs : w.cell? ⟨gs, 0, none⟩ = some (.string s) := (blk_cell h2.hs 0).trans rfl
 have hca : w.cell? ⟨ga, 0, none⟩ = some (.int .i64 i) := (blk_cell h2.ha 0).trans rfl
 have hfa := blk_frozen h2.ha 0
 have hne : gs ≠ ga := Nat.ne_of_lt h2.lt
 have hne2 : ga ≠ gs := Nat.ne_of_gt h2.lt
 clear h2
 by_cases hlt : i < s.size
 ·have q0 : (0 ≤ (i : Int)) = True := eq_true (by omega)
  have q1 : ((i : Int) < (s.size : Int)) = True := eq_true (by omega)
  have q2 : decide ((i : Int) < (s.size : Int)) = true := decide_eq_true (by omega)
  have q3 : decide (i < s.size) = true := decide_eq_true hlt
  have q4 : (i < s.size) = True := eq_true hlt
  have hx : ∀ h : i < s.size, ((s[i].toNat : Nat) : Int) = bt s (i : Nat) := fun h => bt_at s (i : Int) (by simpa using h)
  have hw : wrap64 ((i : Int) + 1) = ((i + 1 : Nat) : Int) := number_parts.next hlt hs
  have hw2 : wrap64 (i : Int) = (i : Int) := by unfold wrap64; omega
  have HLT := Aside0.mk hlt
  have hb : ∃ b1 b2 : Bool, (bt s (i : Nat) == 43) = b1 ∧ (bt s (i : Nat) == 45) = b2 ∧ number_parts.isSign s i = (b1 || b2) := ⟨_, _, rfl, rfl, by unfold number_parts.isSign; rw [decide_eq_true hlt]; rfl⟩
  obtain ⟨b1, b2, p1, p2, hS⟩ := hb
  have hE : number_parts.neg s i = ((b1 || b2) && b2) := by unfold number_parts.neg; rw [hS, p2]
  have hG : number_parts.sgn s i = if (b1 || b2) = true then i + 1 else i := by unfold number_parts.sgn; rw [hS]
  rw [hE, hG]
  clear hE hG hS hlt hi hs
  have HP : (b1 = true ∧ b2 = true) ∨ (b1 = true ∧ b2 = false) ∨ (b1 = false ∧ b2 = true) ∨ (b1 = false ∧ b2 = false) := by cases b1 <;> cases b2 <;> simp
  rcases HP with ⟨rfl, rfl⟩ | ⟨rfl, rfl⟩ | ⟨rfl, rfl⟩ | ⟨rfl, rfl⟩
  all_goals
   go_enter Try.func40, Try.ntmps40
   go_wp2
   go_ret
   refine ⟨rfl, by repeat (first | exact Below.refl _ _ | apply number_parts.belowN | apply number_parts.lower), ?_⟩
  all_goals
   repeat (first | exact H2.out | apply number_parts.Two.drewN | apply number_parts.Two.set)
 ·have hie : i = s.size := by omega
  subst hie
  have hE : number_parts.neg s s.size = false := by unfold number_parts.neg number_parts.isSign; rw [decide_eq_false hlt]; rfl
  have hG : number_parts.sgn s s.size = s.size := by unfold number_parts.sgn number_parts.isSign; rw [decide_eq_false hlt]; rfl
  rw [hE, hG]
  have q2 : decide ((s.size : Int) < (s.size : Int)) = false := decide_eq_false (by omega)
  have q3 : decide (s.size < s.size) = false := decide_eq_false (by omega)
  clear hE hG hlt hi
  go_enter Try.func40, Try.ntmps40
  go_wp2
  go_ret
  exact ⟨rfl, by repeat (first | exact Below.refl _ _ | apply number_parts.belowN | apply number_parts.lower), by repeat (first | exact H2.out | apply number_parts.Two.drewN | apply number_parts.Two.set)⟩

theorem number_parts.less {W W' : World} {gs ga j : Nat} {s : ByteArray} (h : number_parts.Two W gs ga s j) (h' : number_parts.Two W' gs ga s (j + 1)) (hj : j < s.size) : s.size - (intOf ((W'.cell? ⟨ga, 0, none⟩).getD undef)).toNat < s.size - (intOf ((W.cell? ⟨ga, 0, none⟩).getD undef)).toNat := by
 rw [show W.cell? ⟨ga, 0, none⟩ = some (.int .i64 j) from (blk_cell h.ha 0).trans rfl, show W'.cell? ⟨ga, 0, none⟩ = some (.int .i64 (j + 1 : Nat)) from (blk_cell h'.ha 0).trans rfl]
 show s.size - (((j + 1 : Nat) : Int)).toNat < s.size - ((j : Int)).toNat
 rw [Int.toNat_natCast, Int.toNat_natCast]
 omega
set_option maxHeartbeats 8000000 in
set_option maxRecDepth 100000 in
/-- parts' 'digits'. -/
theorem number_parts.digits_calls (s : ByteArray) (gs ga i : Nat) (w : World) (hs : s.size ≤ 140737488351232) (hi : i ≤ s.size) (h2 : number_parts.Two w gs ga s i) :
  Calls Try.prog 41 #[.pointer (some ⟨ga, 0, none⟩), .pointer (some ⟨gs, 0, none⟩)] w fun e w' => e = .returned (.string (s.extract i (number_parts.stop s i))) ∧ Below ga w w' ∧ number_parts.Two w' gs ga s (number_parts.stop s i) := by
 have HN := Aside0.mk hs
 have HI := Aside0.mk hi
 have H2 := Aside0.mk h2
 have hca : w.cell? ⟨ga, 0, none⟩ = some (.int .i64 i) := (blk_cell h2.ha 0).trans rfl
 clear h2 hs hi
 go_enter Try.func41, Try.ntmps41
 go_wp2
 go_loopw [] (fun wr => ∃ (j : Nat), Aside0 (i ≤ j ∧ j ≤ s.size ∧ number_parts.stop s i = number_parts.stop s j) ∧ Aside0 (number_parts.Two wr gs ga s j) ∧ Aside0 (Below ga w wr)) (fun wr => s.size - (intOf ((wr.cell? ⟨ga, 0, none⟩).getD undef)).toNat)
 case atStart => exact ⟨i, ⟨Nat.le_refl _, HI.out, rfl⟩, H2, ⟨Below.refl _ _⟩⟩
 case round =>
  clear hca
  obtain ⟨j, HJ, HT, HB⟩ := hrel
  have hcs : wr.cell? ⟨gs, 0, none⟩ = some (.string s) := (blk_cell HT.out.hs 0).trans rfl
  have hca : wr.cell? ⟨ga, 0, none⟩ = some (.int .i64 j) := (blk_cell HT.out.ha 0).trans rfl
  have hfa := blk_frozen HT.out.ha 0
  have hne : gs ≠ ga := Nat.ne_of_lt HT.out.lt
  have hne2 : ga ≠ gs := Nat.ne_of_gt HT.out.lt
  by_cases hlt : j < s.size
  ·have q0 : (0 ≤ (j : Int)) = True := eq_true (by omega)
   have q1 : ((j : Int) < (s.size : Int)) = True := eq_true (by omega)
   have q2 : decide ((j : Int) < (s.size : Int)) = true := decide_eq_true (by omega)
   have q3 : decide (j < s.size) = true := decide_eq_true hlt
   have q4 : (j < s.size) = True := eq_true hlt
   have hx : ∀ h : j < s.size, ((s[j].toNat : Nat) : Int) = bt s (j : Nat) := fun h => bt_at s (j : Int) (by simpa using h)
   have hw : wrap64 ((j : Int) + 1) = ((j + 1 : Nat) : Int) := number_parts.next hlt HN.out
   have HLT := Aside0.mk hlt
   obtain ⟨b, hb⟩ := number_parts.digit_is (bt s (j : Nat))
   have HD := Aside0.mk hb
   clear hb hlt
   cases b with
   | true =>
    go_wp2_with (first | (go_at_call 42; refine (number_digit.calls _ _ _ HD.out).mono ?_; rintro e w5 ⟨rfl, ⟨nd, rfl⟩⟩))
    go_roundw
    case rel => exact ⟨j + 1, ⟨by have := HJ.out.1; omega, HLT.out, HJ.out.2.2.trans (number_parts.stop_next s j HLT.out HD.out)⟩, ⟨by repeat (first | exact HT.out | apply number_parts.Two.drewN | apply number_parts.Two.set)⟩, ⟨by repeat (first | exact HB.out | apply number_parts.belowN | apply number_parts.lower)⟩⟩
    case measure => exact number_parts.less HT.out (by repeat (first | exact HT.out | apply number_parts.Two.drewN | apply number_parts.Two.set)) HLT.out
   | false =>
    have hst := number_parts.stop_here s j HLT.out (by rw [HD.out]; simp)
    have hE : number_parts.stop s i = j := HJ.out.2.2.trans hst
    have e1 : (0 ≤ (i : Int)) = True := eq_true (by omega)
    have e2 : ((i : Int) ≤ (j : Int)) = True := eq_true (by have := HJ.out.1; omega)
    have e3 : ((j : Int) ≤ (s.size : Int)) = True := eq_true (by have := HJ.out.2.1; omega)
    have e4 : (i ≤ j) = True := eq_true HJ.out.1
    have e5 : (j ≤ s.size) = True := eq_true HJ.out.2.1
    have e6 : decide (i ≤ j) = true := decide_eq_true HJ.out.1
    have e7 : decide (j ≤ s.size) = true := decide_eq_true HJ.out.2.1
    have HE := Aside0.mk hE
    clear hst hE
    go_wp2_with (first | (go_at_call 42; refine (number_digit.calls _ _ _ HD.out).mono ?_; rintro e w5 ⟨rfl, ⟨nd, rfl⟩⟩))
    go_ret
    rw [HE.out]
    exact ⟨rfl, by repeat (first | exact HB.out | apply number_parts.belowN | apply number_parts.lower), by repeat (first | exact HT.out | apply number_parts.Two.drewN | apply number_parts.Two.set)⟩
  ·have hie : j = s.size := by have := HJ.out.2.1; omega
   subst hie
   have hE : number_parts.stop s i = s.size := HJ.out.2.2.trans (number_parts.stop_end s)
   have q2 : decide ((s.size : Int) < (s.size : Int)) = false := decide_eq_false (by omega)
   have q3 : decide (s.size < s.size) = false := decide_eq_false (by omega)
   have e1 : (0 ≤ (i : Int)) = True := eq_true (by omega)
   have e2 : ((i : Int) ≤ (s.size : Int)) = True := eq_true (by have := HJ.out.1; omega)
   have e4 : (i ≤ s.size) = True := eq_true HJ.out.1
   have e6 : decide (i ≤ s.size) = true := decide_eq_true HJ.out.1
   have HE := Aside0.mk hE
   clear hE hlt
   go_wp2
   go_ret
   rw [HE.out]
   exact ⟨rfl, by repeat (first | exact HB.out | apply number_parts.belowN | apply number_parts.lower), by repeat (first | exact HT.out | apply number_parts.Two.drewN | apply number_parts.Two.set)⟩

/-- The three blocks: the text's, the parts', the place's. -/
structure number_parts.St (w W : World) (gs gt ga : Nat) (s : ByteArray) (c : Array Value) (i : Nat) : Prop where
 b : Below w.heap.size w W
 two : number_parts.Two W gs ga s i
 ht : W.heap[gt]? = some (.cells c 48 (0, 0))
 lo : w.heap.size ≤ gs
 o1 : gs < gt
 o2 : gt < ga
theorem number_parts.St.drewN {w W : World} {gs gt ga : Nat} {s : ByteArray} {c : Array Value} {i : Nat} (h : number_parts.St w W gs gt ga s c i) (n : Nat) : number_parts.St w (W.drewN n) gs gt ga s c i :=
 ⟨number_parts.belowN h.b n, h.two.drewN n, h.ht, h.lo, h.o1, h.o2⟩
theorem number_parts.St.setA {w W : World} {gs gt ga : Nat} {s : ByteArray} {c : Array Value} {i : Nat} (h : number_parts.St w W gs gt ga s c i) (j : Nat) : number_parts.St w (W.setCell ⟨ga, 0, none⟩ (.int .i64 j)) gs gt ga s c j :=
 ⟨below_set h.b (Nat.le_trans h.lo (Nat.le_of_lt (Nat.lt_trans h.o1 h.o2))), h.two.set j, blk_far h.ht (show gt ≠ ga from Nat.ne_of_lt h.o2) _, h.lo, h.o1, h.o2⟩
theorem number_parts.St.setT {w W : World} {gs gt ga : Nat} {s : ByteArray} {c : Array Value} {i : Nat} (h : number_parts.St w W gs gt ga s c i) (k : Nat) (v : Value) (c' : Array Value) (e : c.setIfInBounds k v = c') : number_parts.St w (W.setCell ⟨gt, k, none⟩ v) gs gt ga s c' i :=
 ⟨below_set h.b (Nat.le_trans h.lo (Nat.le_of_lt h.o1)), ⟨blk_far h.two.hs (show gs ≠ gt from Nat.ne_of_lt h.o1) _, blk_far h.two.ha (show ga ≠ gt from Nat.ne_of_gt h.o2) _, h.two.lt⟩, blk_put h.ht k v e, h.lo, h.o1, h.o2⟩
theorem number_parts.St.call {w W W' : World} {gs gt ga : Nat} {s : ByteArray} {c : Array Value} {i j : Nat} (h : number_parts.St w W gs gt ga s c i) (hb : Below ga W W') (h2 : number_parts.Two W' gs ga s j) : number_parts.St w W' gs gt ga s c j :=
 ⟨h.b.trans ⟨hb.os, hb.tape, hb.output, hb.size, fun k hk => hb.block k (by have := h.lo; have := h.o1; have := h.o2; omega)⟩, h2, (hb.block gt h.o2).trans h.ht, h.lo, h.o1, h.o2⟩
theorem number_parts.sign_st {w W : World} {gs gt ga : Nat} {s : ByteArray} {c : Array Value} {i : Nat} (h : number_parts.St w W gs gt ga s c i) (j : Nat) (b : Bool) (hs : s.size ≤ 140737488351232) (hi : i ≤ s.size) (hj : number_parts.sgn s i = j) (hb : number_parts.neg s i = b) :
  Calls Try.prog 40 #[.pointer (some ⟨ga, 0, none⟩), .pointer (some ⟨gs, 0, none⟩)] W fun e w' => e = .returned (.bool b) ∧ number_parts.St w w' gs gt ga s c j :=
 (number_parts.sign_calls s gs ga i W hs hi h.two).mono fun e w' ⟨h1, h2, h3⟩ => ⟨hb ▸ h1, h.call h2 (hj ▸ h3)⟩
theorem number_parts.digits_st {w W : World} {gs gt ga : Nat} {s : ByteArray} {c : Array Value} {i : Nat} (h : number_parts.St w W gs gt ga s c i) (j : Nat) (r : ByteArray) (hs : s.size ≤ 140737488351232) (hi : i ≤ s.size) (hj : number_parts.stop s i = j) (hr : s.extract i j = r) :
  Calls Try.prog 41 #[.pointer (some ⟨ga, 0, none⟩), .pointer (some ⟨gs, 0, none⟩)] W fun e w' => e = .returned (.string r) ∧ number_parts.St w w' gs gt ga s c j :=
 (number_parts.digits_calls s gs ga i W hs hi h.two).mono fun e w' ⟨h1, h2, h3⟩ => ⟨hr ▸ hj ▸ h1, h.call h2 (hj ▸ h3)⟩

/-- What is known of a place within the text, and of one at its end. -/
theorem number_parts.at_in {s : ByteArray} {i : Nat} (h : i < s.size) : (0 ≤ (i : Int)) = True ∧ ((i : Int) < (s.size : Int)) = True ∧ decide ((i : Int) < (s.size : Int)) = true ∧ decide (i < s.size) = true ∧ (i < s.size) = True ∧ (∀ h : i < s.size, ((s[i].toNat : Nat) : Int) = bt s (i : Nat)) :=
 ⟨eq_true (by omega), eq_true (by omega), decide_eq_true (by omega), decide_eq_true h, eq_true h, fun h => bt_at s (i : Int) (by simpa using h)⟩
theorem number_parts.at_out {s : ByteArray} {i : Nat} (h : ¬ i < s.size) : decide ((i : Int) < (s.size : Int)) = false ∧ decide (i < s.size) = false := ⟨decide_eq_false (by omega), decide_eq_false h⟩
theorem number_parts.empty_is (r : ByteArray) : (r.toList == ([] : List UInt8)) = decide (r.size = 0) := by
 rw [ByteArray.toList_eq]
 by_cases h : r.size = 0
 ·rw [decide_eq_true h, Array.eq_empty_of_size_eq_zero (xs := r.data) h]
  rfl
 ·rw [decide_eq_false h, beq_eq_false_iff_ne]
  intro e
  apply h
  have := congrArg List.length e
  simpa using this
theorem number_parts.cut_empty {s : ByteArray} {i j : Nat} (h1 : i ≤ j) (h2 : j ≤ s.size) : ((s.extract i j).toList == ([] : List UInt8)) = decide (i = j) := by
 rw [number_parts.empty_is, ByteArray.size_extract]
 congr 1
 exact propext ⟨fun h => by omega, fun h => by omega⟩

/-- How it goes behind the whole digits (p: the part's digits; a2: the place behind them). -/
def number_parts.DotWay (s : ByteArray) (a1 b1 p1 a2 : Nat) (p : ByteArray) : Prop :=
 (¬ a1 < s.size ∧ p = ⟨#[]⟩ ∧ a2 = a1) ∨ (a1 < s.size ∧ (bt s (a1 : Nat) == 46) = false ∧ p = ⟨#[]⟩ ∧ a2 = a1) ∨
  (a1 < s.size ∧ (bt s (a1 : Nat) == 46) = true ∧ p1 = b1 ∧ (p.toList == ([] : List UInt8)) = true ∧ p = s.extract b1 p1 ∧ a2 = a1) ∨ (a1 < s.size ∧ (bt s (a1 : Nat) == 46) = true ∧ b1 < p1 ∧ (p.toList == ([] : List UInt8)) = false ∧ p = s.extract b1 p1 ∧ a2 = p1)
theorem number_parts.sgn_bd (s : ByteArray) (i : Nat) (h : i ≤ s.size) : i ≤ number_parts.sgn s i ∧ number_parts.sgn s i ≤ s.size ∧ number_parts.sgn s i ≤ i + 1 := by
 unfold number_parts.sgn
 split
 ·rename_i h2
  unfold number_parts.isSign at h2
  have := of_decide_eq_true (Bool.and_eq_true_iff.1 h2).1
  omega
 ·omega
theorem number_parts.dot_way (s : ByteArray) (h : number_parts.w1 s ≤ s.size) : number_parts.DotWay s (number_parts.w1 s) (number_parts.w1 s + 1) (number_parts.stop s (number_parts.w1 s + 1)) (number_parts.at2 s) (number_parts.part s) := by
 unfold number_parts.DotWay number_parts.at2 number_parts.part number_parts.p1
 cases hd : number_parts.isDot s (number_parts.w1 s)
 ·rw [if_neg (by decide), if_neg (by decide)]
  unfold number_parts.isDot at hd
  by_cases hl : number_parts.w1 s < s.size
  ·rw [decide_eq_true hl] at hd
   exact .inr (.inl ⟨hl, hd, rfl, rfl⟩)
  ·exact .inl ⟨hl, rfl, rfl⟩
 ·rw [if_pos rfl, if_pos rfl]
  unfold number_parts.isDot at hd
  obtain ⟨h1, h2⟩ := Bool.and_eq_true_iff.1 hd
  have h1 := of_decide_eq_true h1
  have h3 := number_parts.stop_bd s (number_parts.w1 s + 1) h1
  rw [if_pos rfl]
  by_cases he : number_parts.stop s (number_parts.w1 s + 1) = number_parts.w1 s + 1
  ·rw [if_pos he]
   exact .inr (.inr (.inl ⟨h1, h2, he, by rw [number_parts.cut_empty h3.1 h3.2, decide_eq_true he.symm], rfl, rfl⟩))
  ·rw [if_neg he]
   exact .inr (.inr (.inr ⟨h1, h2, by omega, by rw [number_parts.cut_empty h3.1 h3.2, decide_eq_false (fun e => he e.symm)], rfl, rfl⟩))

/-- How it goes behind the digits (x: the exponent's text; en: where the number ends). -/
def number_parts.ExpWay (s : ByteArray) (a2 b2 x0 x1 : Nat) (y x : ByteArray) (en : Nat) : Prop :=
 (¬ a2 < s.size ∧ x = ⟨#[]⟩ ∧ a2 = en) ∨ (a2 < s.size ∧ (bt s (a2 : Nat) == 101) = false ∧ (bt s (a2 : Nat) == 69) = false ∧ x = ⟨#[]⟩ ∧ a2 = en) ∨
  (a2 < s.size ∧ ((bt s (a2 : Nat) == 101) = true ∨ (bt s (a2 : Nat) == 101) = false ∧ (bt s (a2 : Nat) == 69) = true) ∧ (y.toList == ([] : List UInt8)) = true ∧ x = ⟨#[]⟩ ∧ a2 = en) ∨
  (a2 < s.size ∧ ((bt s (a2 : Nat) == 101) = true ∨ (bt s (a2 : Nat) == 101) = false ∧ (bt s (a2 : Nat) == 69) = true) ∧ (y.toList == ([] : List UInt8)) = false ∧ x = s.extract b2 x1 ∧ x1 = en)
theorem number_parts.exp_way (s : ByteArray) (h : number_parts.at2 s ≤ s.size) : number_parts.ExpWay s (number_parts.at2 s) (number_parts.at2 s + 1) (number_parts.x0 s) (number_parts.x1 s) (s.extract (number_parts.x0 s) (number_parts.x1 s))
  (if number_parts.hasE s = true then s.extract (number_parts.at2 s + 1) (number_parts.x1 s) else ⟨#[]⟩) (if number_parts.hasE s = true then number_parts.x1 s else number_parts.at2 s) := by
 unfold number_parts.ExpWay number_parts.hasE
 by_cases hl : number_parts.at2 s < s.size
 ·have hx0 := number_parts.sgn_bd s (number_parts.at2 s + 1) hl
  have hx1 := number_parts.stop_bd s (number_parts.x0 s) hx0.2.1
  have hem := number_parts.cut_empty (s := s) hx1.1 hx1.2
  cases hE : number_parts.isE s (number_parts.at2 s)
  ·unfold number_parts.isE at hE
   rw [decide_eq_true hl] at hE
   have := Bool.or_eq_false_iff.1 hE
   exact .inr (.inl ⟨hl, this.1, this.2, rfl, rfl⟩)
  ·unfold number_parts.isE at hE
   rw [decide_eq_true hl] at hE
   have h3 : (bt s (number_parts.at2 s : Nat) == 101) = true ∨ (bt s (number_parts.at2 s : Nat) == 101) = false ∧ (bt s (number_parts.at2 s : Nat) == 69) = true := by
    cases h4 : bt s (number_parts.at2 s : Nat) == 101
    ·rw [h4] at hE
     exact .inr ⟨rfl, hE⟩
    ·exact .inl rfl
   by_cases h5 : number_parts.x0 s < number_parts.x1 s
   ·rw [decide_eq_true h5]
    exact .inr (.inr (.inr ⟨hl, h3, by rw [show number_parts.x1 s = number_parts.stop s (number_parts.x0 s) from rfl] at h5 ⊢; rw [hem, decide_eq_false (by omega)], rfl, rfl⟩))
   ·rw [decide_eq_false h5]
    exact .inr (.inr (.inl ⟨hl, h3, by rw [show number_parts.x1 s = number_parts.stop s (number_parts.x0 s) from rfl] at h5 ⊢; rw [hem, decide_eq_true (by have := hx1.1; omega)], rfl, rfl⟩))
 ·have : number_parts.isE s (number_parts.at2 s) = false := by unfold number_parts.isE; rw [decide_eq_false hl]; rfl
  rw [this]
  exact .inl ⟨hl, rfl, rfl⟩

theorem number_parts.wr1 {i n : Nat} (h : i ≤ n) (hs : n ≤ 140737488351232) : wrap64 ((i : Int) + 1) = ((i + 1 : Nat) : Int) := by
 unfold wrap64
 omega
theorem number_parts.wr2 {i n : Nat} (h : i ≤ n) (hs : n ≤ 140737488351232) : wrap64 (((i + 1 : Nat) : Int) - 1) = (i : Int) := by
 unfold wrap64
 omega
theorem number_parts.St.drew {w W : World} {gs gt ga : Nat} {s : ByteArray} {c : Array Value} {i : Nat} (h : number_parts.St w W gs gt ga s c i) : number_parts.St w W.drew gs gt ga s c i :=
 ⟨below_drew1 h.b, ⟨blk_drew h.two.hs, blk_drew h.two.ha, h.two.lt⟩, blk_drew h.ht, h.lo, h.o1, h.o2⟩
theorem number_parts.St.setA0 {w W : World} {gs gt ga : Nat} {s : ByteArray} {c : Array Value} {i : Nat} (h : number_parts.St w W gs gt ga s c i) : number_parts.St w (W.setCell ⟨ga, 0, none⟩ (.int .i64 0)) gs gt ga s c 0 := h.setA 0
theorem number_parts.St.start {w w1 w2 w3 : World} {gs gt ga : Nat} {s : ByteArray} {c : Array Value} (k1 : gs = w.heap.size) (k2 : w1.heap[gs]? = some (.cells #[.string s] 9 (0, 0))) (k3 : Below w.heap.size w w1)
  (m1 : gt = w1.heap.size) (m2 : w2.heap[gt]? = some (.cells c 48 (0, 0))) (m3 : Below w1.heap.size w1 w2) (l1 : ga = w2.heap.size) (l2 : w3.heap[ga]? = some (.cells #[.int .i64 0] 3 (0, 0))) (l3 : Below w2.heap.size w2 w3) : number_parts.St w w3 gs gt ga s c 0 := by
 have a1 := blk_lt k2
 have a2 := blk_lt m2
 have a3 := m3.size
 exact ⟨below_step (below_step k3 m3) l3, ⟨blk_below (blk_below k2 m3) l3, l2, by omega⟩, blk_below m2 l3, by omega, by omega, by omega⟩

set_option maxHeartbeats 40000000 in
set_option maxRecDepth 100000 in
theorem number_parts.walk (s sw p y x : ByteArray) (ng q : Bool) (a0 a1 b1 p1 a2 b2 x0 x1 en : Nat) (w : World) (hs : s.size ≤ 140737488351232)
  (h0 : number_parts.sgn s 0 = a0) (hn : number_parts.neg s 0 = ng) (h0b : a0 ≤ s.size) (h1 : number_parts.stop s a0 = a1) (h1b : a1 ≤ s.size) (hsw : s.extract a0 a1 = sw) (hb1 : b1 = a1 + 1)
  (hD : number_parts.DotWay s a1 b1 p1 a2 p) (hp1 : a1 < s.size → number_parts.stop s b1 = p1) (h2b : a2 ≤ s.size) (hb2 : b2 = a2 + 1)
  (hZ : ((sw.toList == ([] : List UInt8)) && (p.toList == ([] : List UInt8))) = false)
  (hE : number_parts.ExpWay s a2 b2 x0 x1 y x en) (hx0 : a2 < s.size → number_parts.sgn s b2 = x0) (hq : number_parts.neg s b2 = q) (hx0b : a2 < s.size → x0 ≤ s.size) (hx1 : a2 < s.size → number_parts.stop s x0 = x1) (hy : s.extract x0 x1 = y) (hx1b : a2 < s.size → b2 ≤ x1 ∧ x1 ≤ s.size) :
  Calls Try.prog 25 #[.string s] w fun e w' => e = .returned (.agg #[.bool ng, .string sw, .string p, .string x, .int .i64 en]) ∧ Below w.heap.size w w' := by
 have hu := Try.underlying48
 have HB1 : Aside0 (a1 < s.size → b1 ≤ s.size) := ⟨fun h => by omega⟩
 have HB2 : Aside0 (a2 < s.size → b2 ≤ s.size) := ⟨fun h => by omega⟩
 have HN := Aside0.mk hs
 have H0 := Aside0.mk h0
 have HNG := Aside0.mk hn
 have H0b := Aside0.mk h0b
 have H1 := Aside0.mk h1
 have HSW := Aside0.mk hsw
 have HQ := Aside0.mk hq
 have HY := Aside0.mk hy
 have hW1 : wrap64 ((a1 : Int) + 1) = (b1 : Int) := by rw [hb1]; exact number_parts.wr1 h1b hs
 have hW2 : wrap64 ((b1 : Int) - 1) = (a1 : Int) := by rw [hb1]; exact number_parts.wr2 h1b hs
 have hW3 : wrap64 ((a2 : Int) + 1) = (b2 : Int) := by rw [hb2]; exact number_parts.wr1 h2b hs
 have HP1 := Aside0.mk hp1
 have HX0 := Aside0.mk hx0
 have HX0b := Aside0.mk hx0b
 have HX1 := Aside0.mk hx1
 have HX1b := Aside0.mk hx1b
 clear hs h0 hn h0b h1 hsw hq hy hb1 hb2 hp1 hx0 hx0b hx1 hx1b h1b h2b
 have HD : (∃ bw bp : Bool, (sw.toList == ([] : List UInt8)) = bw ∧ (p.toList == ([] : List UInt8)) = bp) := ⟨_, _, rfl, rfl⟩
 obtain ⟨bw, bp, hbw, hbp⟩ := HD
 rw [hbw, hbp] at hZ
 have hbw1 : (sw.toList != ([] : List UInt8)) = !bw := by rw [← hbw]; rfl
 have hbp1 : (p.toList != ([] : List UInt8)) = !bp := by rw [← hbp]; rfl
 obtain ⟨bd, hbd⟩ : ∃ bd : Bool, bd = number_parts.isDot s a1 := ⟨_, rfl⟩
 obtain ⟨be, hbe⟩ : ∃ be : Bool, be = number_parts.isE s a2 := ⟨_, rfl⟩
 have HBD := Aside0.mk hbd
 have HBE := Aside0.mk hbe
 have HD := Aside0.mk hD
 have HE := Aside0.mk hE
 clear hbd hbe hD hE
 go_enter Try.func25, Try.ntmps25
 go_upto_region 6 with (first | ((with_reducible refine gate_dst (N := 1) rfl ?_); (try (refine gate_guard (by rfl) ?_; dsimp only)); refine box_event ?hg (N := 1) ?hd (cs := #[.string s]) (t := 9) ?hr ?_; (case hd => rfl); (case hg => rfl); (case hr => first | (go_simp; done) | (go_simp; rfl)); intro gs hg w1 hbox hb; have KB1 := Aside0.mk hb; have KS1 := Aside0.mk hbox; have KG1 := Aside0.mk hg; clear hg hbox hb) | ((with_reducible refine gate_dst (N := 2) rfl ?_); (try (refine gate_guard (by rfl) ?_; dsimp only)); refine box_event ?hg (N := 2) ?hd (cs := #[.bool false, .string (⟨#[]⟩ : ByteArray), .string (⟨#[]⟩ : ByteArray), .string (⟨#[]⟩ : ByteArray), .int .i64 0]) (t := 48) ?hr ?_; (case hd => rfl); (case hg => rfl); (case hr => first | (go_simp; done) | (go_simp; rfl)); intro gt hg w2 hbox hb; have KB2 := Aside0.mk hb; have KS2 := Aside0.mk hbox; have KG2 := Aside0.mk hg; clear hg hbox hb) | ((with_reducible refine gate_dst (N := 3) rfl ?_); (try (refine gate_guard (by rfl) ?_; dsimp only)); refine box_event ?hg (N := 3) ?hd (cs := #[.int .i64 0]) (t := 3) ?hr ?_; (case hd => rfl); (case hg => rfl); (case hr => first | (go_simp; done) | (go_simp; rfl)); intro ga hg w3 hbox hb; have KB3 := Aside0.mk hb; have KS3 := Aside0.mk hbox; have KG3 := Aside0.mk hg; clear hg hbox hb; have HP := Aside0.mk (number_parts.St.start KG1.out KS1.out KB1.out KG2.out KS2.out KB2.out KG3.out KS3.out KB3.out); have n1 : gs ≠ gt := Nat.ne_of_lt HP.out.o1; have n2 : gt ≠ gs := Nat.ne_of_gt HP.out.o1; have n3 : gt ≠ ga := Nat.ne_of_lt HP.out.o2; have n4 : ga ≠ gt := Nat.ne_of_gt HP.out.o2; have n5 : gs ≠ ga := Nat.ne_of_lt HP.out.two.lt; have n6 : ga ≠ gs := Nat.ne_of_gt HP.out.two.lt; have hcs : w3.cell? ⟨gs, 0, none⟩ = some (.string s) := (blk_cell HP.out.two.hs 0).trans rfl; have hca : w3.cell? ⟨ga, 0, none⟩ = some (.int .i64 0) := (blk_cell HP.out.two.ha 0).trans rfl; have hfa := blk_frozen HP.out.two.ha 0; have ht0 : w3.cell? ⟨gt, 0, none⟩ = some (.bool false) := (blk_cell HP.out.ht 0).trans rfl; have hf0 := blk_frozen HP.out.ht 0; have ht1 : w3.cell? ⟨gt, 1, none⟩ = some (.string (⟨#[]⟩ : ByteArray)) := (blk_cell HP.out.ht 1).trans rfl; have hf1 := blk_frozen HP.out.ht 1; have ht2 : w3.cell? ⟨gt, 2, none⟩ = some (.string (⟨#[]⟩ : ByteArray)) := (blk_cell HP.out.ht 2).trans rfl; have hf2 := blk_frozen HP.out.ht 2; have ht3 : w3.cell? ⟨gt, 3, none⟩ = some (.string (⟨#[]⟩ : ByteArray)) := (blk_cell HP.out.ht 3).trans rfl; have hf3 := blk_frozen HP.out.ht 3; have ht4 : w3.cell? ⟨gt, 4, none⟩ = some (.int .i64 0) := (blk_cell HP.out.ht 4).trans rfl; have hf4 := blk_frozen HP.out.ht 4) | (go_at_call 40; refine (number_parts.sign_st (w := w) (gt := gt) (c := #[.bool false, .string (⟨#[]⟩ : ByteArray), .string (⟨#[]⟩ : ByteArray), .string (⟨#[]⟩ : ByteArray), .int .i64 0]) (i := 0) ?st a0 ng HN.out (Nat.zero_le _) H0.out HNG.out).mono ?_; (case st => repeat (first | (with_reducible first | exact HP.out | apply number_parts.St.drewN | apply number_parts.St.drew | apply number_parts.St.setA0 | apply number_parts.St.setA | apply number_parts.St.setT) | exact (rfl : (_ : Array Value) = _))); rintro e w4 ⟨rfl, hp⟩; replace HP := Aside0.mk hp; clear hp; have hcs : w4.cell? ⟨gs, 0, none⟩ = some (.string s) := (blk_cell HP.out.two.hs 0).trans rfl; have hca : w4.cell? ⟨ga, 0, none⟩ = some (.int .i64 a0) := (blk_cell HP.out.two.ha 0).trans rfl; have hfa := blk_frozen HP.out.two.ha 0; have ht0 : w4.cell? ⟨gt, 0, none⟩ = some (.bool false) := (blk_cell HP.out.ht 0).trans rfl; have hf0 := blk_frozen HP.out.ht 0; have ht1 : w4.cell? ⟨gt, 1, none⟩ = some (.string (⟨#[]⟩ : ByteArray)) := (blk_cell HP.out.ht 1).trans rfl; have hf1 := blk_frozen HP.out.ht 1; have ht2 : w4.cell? ⟨gt, 2, none⟩ = some (.string (⟨#[]⟩ : ByteArray)) := (blk_cell HP.out.ht 2).trans rfl; have hf2 := blk_frozen HP.out.ht 2; have ht3 : w4.cell? ⟨gt, 3, none⟩ = some (.string (⟨#[]⟩ : ByteArray)) := (blk_cell HP.out.ht 3).trans rfl; have hf3 := blk_frozen HP.out.ht 3; have ht4 : w4.cell? ⟨gt, 4, none⟩ = some (.int .i64 0) := (blk_cell HP.out.ht 4).trans rfl; have hf4 := blk_frozen HP.out.ht 4) | (go_at_call 41; refine (number_parts.digits_st (w := w) (gt := gt) (c := #[.bool ng, .string (⟨#[]⟩ : ByteArray), .string (⟨#[]⟩ : ByteArray), .string (⟨#[]⟩ : ByteArray), .int .i64 0]) (i := a0) ?st a1 sw HN.out H0b.out H1.out HSW.out).mono ?_; (case st => repeat (first | (with_reducible first | exact HP.out | apply number_parts.St.drewN | apply number_parts.St.drew | apply number_parts.St.setA0 | apply number_parts.St.setA | apply number_parts.St.setT) | exact (rfl : (_ : Array Value) = _))); rintro e w5 ⟨rfl, hp⟩; replace HP := Aside0.mk hp; clear hp; have hcs : w5.cell? ⟨gs, 0, none⟩ = some (.string s) := (blk_cell HP.out.two.hs 0).trans rfl; have hca : w5.cell? ⟨ga, 0, none⟩ = some (.int .i64 a1) := (blk_cell HP.out.two.ha 0).trans rfl; have hfa := blk_frozen HP.out.two.ha 0; have ht0 : w5.cell? ⟨gt, 0, none⟩ = some (.bool ng) := (blk_cell HP.out.ht 0).trans rfl; have hf0 := blk_frozen HP.out.ht 0; have ht1 : w5.cell? ⟨gt, 1, none⟩ = some (.string (⟨#[]⟩ : ByteArray)) := (blk_cell HP.out.ht 1).trans rfl; have hf1 := blk_frozen HP.out.ht 1; have ht2 : w5.cell? ⟨gt, 2, none⟩ = some (.string (⟨#[]⟩ : ByteArray)) := (blk_cell HP.out.ht 2).trans rfl; have hf2 := blk_frozen HP.out.ht 2; have ht3 : w5.cell? ⟨gt, 3, none⟩ = some (.string (⟨#[]⟩ : ByteArray)) := (blk_cell HP.out.ht 3).trans rfl; have hf3 := blk_frozen HP.out.ht 3; have ht4 : w5.cell? ⟨gt, 4, none⟩ = some (.int .i64 0) := (blk_cell HP.out.ht 4).trans rfl; have hf4 := blk_frozen HP.out.ht 4))
 go_cut [24] (fun v24 wc => v24 = .bool bd ∧ Aside0 (number_parts.St w wc gs gt ga s #[.bool ng, .string sw, .string (⟨#[]⟩ : ByteArray), .string (⟨#[]⟩ : ByteArray), .int .i64 0] a1))
 case first =>
  by_cases d1 : a1 < s.size
  ·obtain ⟨qa, qb, qc, qd, qe, qf⟩ := number_parts.at_in d1
   have d2 : bd = (bt s (a1 : Nat) == 46) := by rw [HBD.out]; unfold number_parts.isDot; rw [qd]; rfl
   have HD2 := Aside0.mk d2
   clear d1 d2
   go_wp2
   go_meet
   case rel => exact ⟨by rw [HD2.out], ⟨by repeat (first | (with_reducible first | exact HP.out | apply number_parts.St.drewN | apply number_parts.St.drew | apply number_parts.St.setA0 | apply number_parts.St.setA | apply number_parts.St.setT) | exact (rfl : (_ : Array Value) = _))⟩⟩
  ·obtain ⟨qa, qb⟩ := number_parts.at_out d1
   have d2 : bd = false := by rw [HBD.out]; unfold number_parts.isDot; rw [qb]; rfl
   have HD2 := Aside0.mk d2
   clear d1 d2
   go_wp2
   go_meet
   case rel => exact ⟨by rw [HD2.out], ⟨by repeat (first | (with_reducible first | exact HP.out | apply number_parts.St.drewN | apply number_parts.St.drew | apply number_parts.St.setA0 | apply number_parts.St.setA | apply number_parts.St.setT) | exact (rfl : (_ : Array Value) = _))⟩⟩
 case rest =>
  obtain ⟨rfl, HP⟩ := hcut
  have hcs : wc.cell? ⟨gs, 0, none⟩ = some (.string s) := (blk_cell HP.out.two.hs 0).trans rfl
  have hca : wc.cell? ⟨ga, 0, none⟩ = some (.int .i64 a1) := (blk_cell HP.out.two.ha 0).trans rfl
  have hfa := blk_frozen HP.out.two.ha 0
  have ht0 : wc.cell? ⟨gt, 0, none⟩ = some (.bool ng) := (blk_cell HP.out.ht 0).trans rfl
  have hf0 := blk_frozen HP.out.ht 0
  have ht1 : wc.cell? ⟨gt, 1, none⟩ = some (.string sw) := (blk_cell HP.out.ht 1).trans rfl
  have hf1 := blk_frozen HP.out.ht 1
  have ht2 : wc.cell? ⟨gt, 2, none⟩ = some (.string (⟨#[]⟩ : ByteArray)) := (blk_cell HP.out.ht 2).trans rfl
  have hf2 := blk_frozen HP.out.ht 2
  have ht3 : wc.cell? ⟨gt, 3, none⟩ = some (.string (⟨#[]⟩ : ByteArray)) := (blk_cell HP.out.ht 3).trans rfl
  have hf3 := blk_frozen HP.out.ht 3
  have ht4 : wc.cell? ⟨gt, 4, none⟩ = some (.int .i64 0) := (blk_cell HP.out.ht 4).trans rfl
  have hf4 := blk_frozen HP.out.ht 4
  go_upto_if 24 with (fail)
  go_cut [] (fun wc => Aside0 (number_parts.St w wc gs gt ga s #[.bool ng, .string sw, .string p, .string (⟨#[]⟩ : ByteArray), .int .i64 0] a2))
  case first =>
   rcases HD.out with ⟨d1, d2, d3⟩ | ⟨d1, d2, d3, d4⟩ | ⟨d1, d2, d3, d4, d5, d6⟩ | ⟨d1, d2, d3, d4, d5, d6⟩
   ·have d4 : bd = false := by rw [HBD.out]; unfold number_parts.isDot; rw [decide_eq_false d1]; rfl
    subst d4
    replace d2 := Aside0.mk d2
    replace d3 := Aside0.mk d3
    clear d1
    go_wp2
    go_meet
    case rel =>
     rw [d2.out, d3.out]
     exact ⟨by repeat (first | (with_reducible first | exact HP.out | apply number_parts.St.drewN | apply number_parts.St.drew | apply number_parts.St.setA0 | apply number_parts.St.setA | apply number_parts.St.setT) | exact (rfl : (_ : Array Value) = _))⟩
   ·have d5 : bd = false := by rw [HBD.out]; unfold number_parts.isDot; rw [d2, Bool.and_false]
    subst d5
    replace d3 := Aside0.mk d3
    replace d4 := Aside0.mk d4
    clear d1 d2
    go_wp2
    go_meet
    case rel =>
     rw [d3.out, d4.out]
     exact ⟨by repeat (first | (with_reducible first | exact HP.out | apply number_parts.St.drewN | apply number_parts.St.drew | apply number_parts.St.setA0 | apply number_parts.St.setA | apply number_parts.St.setT) | exact (rfl : (_ : Array Value) = _))⟩
   ·have HPP := Aside0.mk d5.symm
    have HP2 := Aside0.mk (HP1.out d1)
    have HB3 := Aside0.mk (HB1.out d1)
    have d7 : bp = true := hbp.symm.trans d4
    have d8 : bd = true := by rw [HBD.out]; unfold number_parts.isDot; rw [decide_eq_true d1, d2]; rfl
    replace d6 := Aside0.mk d6
    clear d1 d2 d4 d5 HP1 HB1
    have HP1 := HP2
    have HB1 := HB3
    subst d7
    subst d8
    have d9 := d3.symm
    subst d9
    go_wp2_with (first | (go_at_call 41; refine (number_parts.digits_st (w := w) (gt := gt) (c := #[.bool ng, .string sw, .string (⟨#[]⟩ : ByteArray), .string (⟨#[]⟩ : ByteArray), .int .i64 0]) (i := b1) ?st b1 p HN.out HB1.out HP1.out HPP.out).mono ?_; (case st => repeat (first | (with_reducible first | exact HP.out | apply number_parts.St.drewN | apply number_parts.St.drew | apply number_parts.St.setA0 | apply number_parts.St.setA | apply number_parts.St.setT) | exact (rfl : (_ : Array Value) = _))); rintro e w6 ⟨rfl, hp⟩; replace HP := Aside0.mk hp; clear hp; have hcs : w6.cell? ⟨gs, 0, none⟩ = some (.string s) := (blk_cell HP.out.two.hs 0).trans rfl; have hca : w6.cell? ⟨ga, 0, none⟩ = some (.int .i64 b1) := (blk_cell HP.out.two.ha 0).trans rfl; have hfa := blk_frozen HP.out.two.ha 0; have ht0 : w6.cell? ⟨gt, 0, none⟩ = some (.bool ng) := (blk_cell HP.out.ht 0).trans rfl; have hf0 := blk_frozen HP.out.ht 0; have ht1 : w6.cell? ⟨gt, 1, none⟩ = some (.string sw) := (blk_cell HP.out.ht 1).trans rfl; have hf1 := blk_frozen HP.out.ht 1; have ht2 : w6.cell? ⟨gt, 2, none⟩ = some (.string (⟨#[]⟩ : ByteArray)) := (blk_cell HP.out.ht 2).trans rfl; have hf2 := blk_frozen HP.out.ht 2; have ht3 : w6.cell? ⟨gt, 3, none⟩ = some (.string (⟨#[]⟩ : ByteArray)) := (blk_cell HP.out.ht 3).trans rfl; have hf3 := blk_frozen HP.out.ht 3; have ht4 : w6.cell? ⟨gt, 4, none⟩ = some (.int .i64 0) := (blk_cell HP.out.ht 4).trans rfl; have hf4 := blk_frozen HP.out.ht 4))
    go_meet
    case rel =>
     rw [d6.out]
     exact ⟨by repeat (first | (with_reducible first | exact HP.out | apply number_parts.St.drewN | apply number_parts.St.drew | apply number_parts.St.setA0 | apply number_parts.St.setA | apply number_parts.St.setT) | exact (rfl : (_ : Array Value) = _))⟩
   ·have HPP := Aside0.mk d5.symm
    have HP2 := Aside0.mk (HP1.out d1)
    have HB3 := Aside0.mk (HB1.out d1)
    have d7 : bp = false := hbp.symm.trans d4
    have d8 : bd = true := by rw [HBD.out]; unfold number_parts.isDot; rw [decide_eq_true d1, d2]; rfl
    replace d6 := Aside0.mk d6
    clear d1 d2 d3 d4 d5 HP1 HB1
    have HP1 := HP2
    have HB1 := HB3
    subst d7
    subst d8
    go_wp2_with (first | (go_at_call 41; refine (number_parts.digits_st (w := w) (gt := gt) (c := #[.bool ng, .string sw, .string (⟨#[]⟩ : ByteArray), .string (⟨#[]⟩ : ByteArray), .int .i64 0]) (i := b1) ?st p1 p HN.out HB1.out HP1.out HPP.out).mono ?_; (case st => repeat (first | (with_reducible first | exact HP.out | apply number_parts.St.drewN | apply number_parts.St.drew | apply number_parts.St.setA0 | apply number_parts.St.setA | apply number_parts.St.setT) | exact (rfl : (_ : Array Value) = _))); rintro e w6 ⟨rfl, hp⟩; replace HP := Aside0.mk hp; clear hp; have hcs : w6.cell? ⟨gs, 0, none⟩ = some (.string s) := (blk_cell HP.out.two.hs 0).trans rfl; have hca : w6.cell? ⟨ga, 0, none⟩ = some (.int .i64 p1) := (blk_cell HP.out.two.ha 0).trans rfl; have hfa := blk_frozen HP.out.two.ha 0; have ht0 : w6.cell? ⟨gt, 0, none⟩ = some (.bool ng) := (blk_cell HP.out.ht 0).trans rfl; have hf0 := blk_frozen HP.out.ht 0; have ht1 : w6.cell? ⟨gt, 1, none⟩ = some (.string sw) := (blk_cell HP.out.ht 1).trans rfl; have hf1 := blk_frozen HP.out.ht 1; have ht2 : w6.cell? ⟨gt, 2, none⟩ = some (.string (⟨#[]⟩ : ByteArray)) := (blk_cell HP.out.ht 2).trans rfl; have hf2 := blk_frozen HP.out.ht 2; have ht3 : w6.cell? ⟨gt, 3, none⟩ = some (.string (⟨#[]⟩ : ByteArray)) := (blk_cell HP.out.ht 3).trans rfl; have hf3 := blk_frozen HP.out.ht 3; have ht4 : w6.cell? ⟨gt, 4, none⟩ = some (.int .i64 0) := (blk_cell HP.out.ht 4).trans rfl; have hf4 := blk_frozen HP.out.ht 4))
    go_meet
    case rel =>
     rw [d6.out]
     exact ⟨by repeat (first | (with_reducible first | exact HP.out | apply number_parts.St.drewN | apply number_parts.St.drew | apply number_parts.St.setA0 | apply number_parts.St.setA | apply number_parts.St.setT) | exact (rfl : (_ : Array Value) = _))⟩
  case rest =>
   have HP := hcut
   clear hcut
   have hcs : wc.cell? ⟨gs, 0, none⟩ = some (.string s) := (blk_cell HP.out.two.hs 0).trans rfl
   have hca : wc.cell? ⟨ga, 0, none⟩ = some (.int .i64 a2) := (blk_cell HP.out.two.ha 0).trans rfl
   have hfa := blk_frozen HP.out.two.ha 0
   have ht0 : wc.cell? ⟨gt, 0, none⟩ = some (.bool ng) := (blk_cell HP.out.ht 0).trans rfl
   have hf0 := blk_frozen HP.out.ht 0
   have ht1 : wc.cell? ⟨gt, 1, none⟩ = some (.string sw) := (blk_cell HP.out.ht 1).trans rfl
   have hf1 := blk_frozen HP.out.ht 1
   have ht2 : wc.cell? ⟨gt, 2, none⟩ = some (.string p) := (blk_cell HP.out.ht 2).trans rfl
   have hf2 := blk_frozen HP.out.ht 2
   have ht3 : wc.cell? ⟨gt, 3, none⟩ = some (.string (⟨#[]⟩ : ByteArray)) := (blk_cell HP.out.ht 3).trans rfl
   have hf3 := blk_frozen HP.out.ht 3
   have ht4 : wc.cell? ⟨gt, 4, none⟩ = some (.int .i64 0) := (blk_cell HP.out.ht 4).trans rfl
   have hf4 := blk_frozen HP.out.ht 4
   go_upto_region 11 with (fail)
   go_cut [42] (fun v42 wc => v42 = .bool false ∧ Aside0 (number_parts.St w wc gs gt ga s #[.bool ng, .string sw, .string p, .string (⟨#[]⟩ : ByteArray), .int .i64 0] a2))
   case first =>
    cases bw
    ·go_wp2
     go_meet
     case rel => exact ⟨rfl, ⟨by repeat (first | (with_reducible first | exact HP.out | apply number_parts.St.drewN | apply number_parts.St.drew | apply number_parts.St.setA0 | apply number_parts.St.setA | apply number_parts.St.setT) | exact (rfl : (_ : Array Value) = _))⟩⟩
    ·have d1 : bp = false := by simpa using hZ
     subst d1
     go_wp2
     go_meet
     case rel => exact ⟨rfl, ⟨by repeat (first | (with_reducible first | exact HP.out | apply number_parts.St.drewN | apply number_parts.St.drew | apply number_parts.St.setA0 | apply number_parts.St.setA | apply number_parts.St.setT) | exact (rfl : (_ : Array Value) = _))⟩⟩
   case rest =>
    obtain ⟨rfl, HP⟩ := hcut
    have hcs : wc.cell? ⟨gs, 0, none⟩ = some (.string s) := (blk_cell HP.out.two.hs 0).trans rfl
    have hca : wc.cell? ⟨ga, 0, none⟩ = some (.int .i64 a2) := (blk_cell HP.out.two.ha 0).trans rfl
    have hfa := blk_frozen HP.out.two.ha 0
    have ht0 : wc.cell? ⟨gt, 0, none⟩ = some (.bool ng) := (blk_cell HP.out.ht 0).trans rfl
    have hf0 := blk_frozen HP.out.ht 0
    have ht1 : wc.cell? ⟨gt, 1, none⟩ = some (.string sw) := (blk_cell HP.out.ht 1).trans rfl
    have hf1 := blk_frozen HP.out.ht 1
    have ht2 : wc.cell? ⟨gt, 2, none⟩ = some (.string p) := (blk_cell HP.out.ht 2).trans rfl
    have hf2 := blk_frozen HP.out.ht 2
    have ht3 : wc.cell? ⟨gt, 3, none⟩ = some (.string (⟨#[]⟩ : ByteArray)) := (blk_cell HP.out.ht 3).trans rfl
    have hf3 := blk_frozen HP.out.ht 3
    have ht4 : wc.cell? ⟨gt, 4, none⟩ = some (.int .i64 0) := (blk_cell HP.out.ht 4).trans rfl
    have hf4 := blk_frozen HP.out.ht 4
    go_upto_region 14 with (fail)
    go_cut [61] (fun v61 wc => v61 = .bool be ∧ Aside0 (number_parts.St w wc gs gt ga s #[.bool ng, .string sw, .string p, .string (⟨#[]⟩ : ByteArray), .int .i64 a2] a2))
    case first =>
     by_cases d1 : a2 < s.size
     ·obtain ⟨qa, qb, qc, qd, qe, qf⟩ := number_parts.at_in d1
      have d2 : be = ((bt s (a2 : Nat) == 101) || (bt s (a2 : Nat) == 69)) := by rw [HBE.out]; unfold number_parts.isE; rw [qd]; rfl
      have HD2 := Aside0.mk d2
      clear d1 d2
      cases d3 : (bt s (a2 : Nat) == 101)
      ·go_wp2
       go_meet
       case rel => exact ⟨by rw [HD2.out, d3]; rfl, ⟨by repeat (first | (with_reducible first | exact HP.out | apply number_parts.St.drewN | apply number_parts.St.drew | apply number_parts.St.setA0 | apply number_parts.St.setA | apply number_parts.St.setT) | exact (rfl : (_ : Array Value) = _))⟩⟩
      ·go_wp2
       go_meet
       case rel => exact ⟨by rw [HD2.out, d3]; rfl, ⟨by repeat (first | (with_reducible first | exact HP.out | apply number_parts.St.drewN | apply number_parts.St.drew | apply number_parts.St.setA0 | apply number_parts.St.setA | apply number_parts.St.setT) | exact (rfl : (_ : Array Value) = _))⟩⟩
     ·obtain ⟨qa, qb⟩ := number_parts.at_out d1
      have d2 : be = false := by rw [HBE.out]; unfold number_parts.isE; rw [qb]; rfl
      have HD2 := Aside0.mk d2
      clear d1 d2
      go_wp2
      go_meet
      case rel => exact ⟨by rw [HD2.out], ⟨by repeat (first | (with_reducible first | exact HP.out | apply number_parts.St.drewN | apply number_parts.St.drew | apply number_parts.St.setA0 | apply number_parts.St.setA | apply number_parts.St.setT) | exact (rfl : (_ : Array Value) = _))⟩⟩
    case rest =>
     obtain ⟨rfl, HP⟩ := hcut
     have hcs : wc.cell? ⟨gs, 0, none⟩ = some (.string s) := (blk_cell HP.out.two.hs 0).trans rfl
     have hca : wc.cell? ⟨ga, 0, none⟩ = some (.int .i64 a2) := (blk_cell HP.out.two.ha 0).trans rfl
     have hfa := blk_frozen HP.out.two.ha 0
     have ht0 : wc.cell? ⟨gt, 0, none⟩ = some (.bool ng) := (blk_cell HP.out.ht 0).trans rfl
     have hf0 := blk_frozen HP.out.ht 0
     have ht1 : wc.cell? ⟨gt, 1, none⟩ = some (.string sw) := (blk_cell HP.out.ht 1).trans rfl
     have hf1 := blk_frozen HP.out.ht 1
     have ht2 : wc.cell? ⟨gt, 2, none⟩ = some (.string p) := (blk_cell HP.out.ht 2).trans rfl
     have hf2 := blk_frozen HP.out.ht 2
     have ht3 : wc.cell? ⟨gt, 3, none⟩ = some (.string (⟨#[]⟩ : ByteArray)) := (blk_cell HP.out.ht 3).trans rfl
     have hf3 := blk_frozen HP.out.ht 3
     have ht4 : wc.cell? ⟨gt, 4, none⟩ = some (.int .i64 a2) := (blk_cell HP.out.ht 4).trans rfl
     have hf4 := blk_frozen HP.out.ht 4
     go_upto_if 61 with (fail)
     go_cut [] (fun wc => ∃ i : Nat, Aside0 (number_parts.St w wc gs gt ga s #[.bool ng, .string sw, .string p, .string x, .int .i64 en] i))
     case first =>
      rcases HE.out with ⟨d1, d2, d3⟩ | ⟨d1, d2, d3, d4, d5⟩ | ⟨d1, d2, d3, d4, d5⟩ | ⟨d1, d2, d3, d4, d5⟩
      ·have d4 : be = false := by rw [HBE.out]; unfold number_parts.isE; rw [decide_eq_false d1]; rfl
       subst d4
       replace d2 := Aside0.mk d2
       replace d3 := Aside0.mk d3
       clear d1
       go_wp2
       go_meet
       case rel =>
        rw [d2.out, ← d3.out]
        exact ⟨_, ⟨by repeat (first | (with_reducible first | exact HP.out | apply number_parts.St.drewN | apply number_parts.St.drew | apply number_parts.St.setA0 | apply number_parts.St.setA | apply number_parts.St.setT) | exact (rfl : (_ : Array Value) = _))⟩⟩
      ·have d6 : be = false := by rw [HBE.out]; unfold number_parts.isE; rw [d2, d3, Bool.or_false, Bool.and_false]
       subst d6
       replace d4 := Aside0.mk d4
       replace d5 := Aside0.mk d5
       clear d1 d2 d3
       go_wp2
       go_meet
       case rel =>
        rw [d4.out, ← d5.out]
        exact ⟨_, ⟨by repeat (first | (with_reducible first | exact HP.out | apply number_parts.St.drewN | apply number_parts.St.drew | apply number_parts.St.setA0 | apply number_parts.St.setA | apply number_parts.St.setT) | exact (rfl : (_ : Array Value) = _))⟩⟩
      ·have d6 : be = true := by rw [HBE.out]; unfold number_parts.isE; rw [decide_eq_true d1]; exact d2.elim (fun h => by rw [h]; rfl) (fun h => by rw [h.1, h.2]; rfl)
       subst d6
       have H2 := Aside0.mk (HB2.out d1)
       have H3 := Aside0.mk (HX0.out d1)
       have H4 := Aside0.mk (HX0b.out d1)
       have H5 := Aside0.mk (HX1.out d1)
       clear HB2 HX0 HX0b HX1 HX1b
       have HB2 := H2
       have HX0 := H3
       have HX0b := H4
       have HX1 := H5
       have e5 : (y.toList != ([] : List UInt8)) = false := by rw [bne, d3]; rfl
       replace d4 := Aside0.mk d4
       replace d5 := Aside0.mk d5
       clear d1 d2
       go_wp2_with (first | (go_at_call 40; refine (number_parts.sign_st (w := w) (gt := gt) (c := #[.bool ng, .string sw, .string p, .string (⟨#[]⟩ : ByteArray), .int .i64 a2]) (i := b2) ?st x0 q HN.out HB2.out HX0.out HQ.out).mono ?_; (case st => repeat (first | (with_reducible first | exact HP.out | apply number_parts.St.drewN | apply number_parts.St.drew | apply number_parts.St.setA0 | apply number_parts.St.setA | apply number_parts.St.setT) | exact (rfl : (_ : Array Value) = _))); rintro e w7 ⟨rfl, hp⟩; replace HP := Aside0.mk hp; clear hp; have hcs : w7.cell? ⟨gs, 0, none⟩ = some (.string s) := (blk_cell HP.out.two.hs 0).trans rfl; have hca : w7.cell? ⟨ga, 0, none⟩ = some (.int .i64 x0) := (blk_cell HP.out.two.ha 0).trans rfl; have hfa := blk_frozen HP.out.two.ha 0; have ht0 : w7.cell? ⟨gt, 0, none⟩ = some (.bool ng) := (blk_cell HP.out.ht 0).trans rfl; have hf0 := blk_frozen HP.out.ht 0; have ht1 : w7.cell? ⟨gt, 1, none⟩ = some (.string sw) := (blk_cell HP.out.ht 1).trans rfl; have hf1 := blk_frozen HP.out.ht 1; have ht2 : w7.cell? ⟨gt, 2, none⟩ = some (.string p) := (blk_cell HP.out.ht 2).trans rfl; have hf2 := blk_frozen HP.out.ht 2; have ht3 : w7.cell? ⟨gt, 3, none⟩ = some (.string (⟨#[]⟩ : ByteArray)) := (blk_cell HP.out.ht 3).trans rfl; have hf3 := blk_frozen HP.out.ht 3; have ht4 : w7.cell? ⟨gt, 4, none⟩ = some (.int .i64 a2) := (blk_cell HP.out.ht 4).trans rfl; have hf4 := blk_frozen HP.out.ht 4) | (go_at_call 41; refine (number_parts.digits_st (w := w) (gt := gt) (c := #[.bool ng, .string sw, .string p, .string (⟨#[]⟩ : ByteArray), .int .i64 a2]) (i := x0) ?st x1 y HN.out HX0b.out HX1.out HY.out).mono ?_; (case st => repeat (first | (with_reducible first | exact HP.out | apply number_parts.St.drewN | apply number_parts.St.drew | apply number_parts.St.setA0 | apply number_parts.St.setA | apply number_parts.St.setT) | exact (rfl : (_ : Array Value) = _))); rintro e w8 ⟨rfl, hp⟩; replace HP := Aside0.mk hp; clear hp; have hcs : w8.cell? ⟨gs, 0, none⟩ = some (.string s) := (blk_cell HP.out.two.hs 0).trans rfl; have hca : w8.cell? ⟨ga, 0, none⟩ = some (.int .i64 x1) := (blk_cell HP.out.two.ha 0).trans rfl; have hfa := blk_frozen HP.out.two.ha 0; have ht0 : w8.cell? ⟨gt, 0, none⟩ = some (.bool ng) := (blk_cell HP.out.ht 0).trans rfl; have hf0 := blk_frozen HP.out.ht 0; have ht1 : w8.cell? ⟨gt, 1, none⟩ = some (.string sw) := (blk_cell HP.out.ht 1).trans rfl; have hf1 := blk_frozen HP.out.ht 1; have ht2 : w8.cell? ⟨gt, 2, none⟩ = some (.string p) := (blk_cell HP.out.ht 2).trans rfl; have hf2 := blk_frozen HP.out.ht 2; have ht3 : w8.cell? ⟨gt, 3, none⟩ = some (.string (⟨#[]⟩ : ByteArray)) := (blk_cell HP.out.ht 3).trans rfl; have hf3 := blk_frozen HP.out.ht 3; have ht4 : w8.cell? ⟨gt, 4, none⟩ = some (.int .i64 a2) := (blk_cell HP.out.ht 4).trans rfl; have hf4 := blk_frozen HP.out.ht 4))
       go_meet
       case rel =>
        rw [d4.out, ← d5.out]
        exact ⟨_, ⟨by repeat (first | (with_reducible first | exact HP.out | apply number_parts.St.drewN | apply number_parts.St.drew | apply number_parts.St.setA0 | apply number_parts.St.setA | apply number_parts.St.setT) | exact (rfl : (_ : Array Value) = _))⟩⟩
      ·have d6 : be = true := by rw [HBE.out]; unfold number_parts.isE; rw [decide_eq_true d1]; exact d2.elim (fun h => by rw [h]; rfl) (fun h => by rw [h.1, h.2]; rfl)
       subst d6
       have HX := Aside0.mk (HX1b.out d1)
       have H2 := Aside0.mk (HB2.out d1)
       have H3 := Aside0.mk (HX0.out d1)
       have H4 := Aside0.mk (HX0b.out d1)
       have H5 := Aside0.mk (HX1.out d1)
       clear HB2 HX0 HX0b HX1 HX1b
       have HB2 := H2
       have HX0 := H3
       have HX0b := H4
       have HX1 := H5
       have e5 : (y.toList != ([] : List UInt8)) = true := by rw [bne, d3]; rfl
       replace d4 := Aside0.mk d4
       replace d5 := Aside0.mk d5
       have sa : (b2 ≤ x1) = True := eq_true HX.out.1
       have sb : (x1 ≤ s.size) = True := eq_true HX.out.2
       have sc : ((b2 : Int) ≤ (x1 : Int)) = True := eq_true (Int.ofNat_le.2 HX.out.1)
       have sd : ((x1 : Int) ≤ (s.size : Int)) = True := eq_true (Int.ofNat_le.2 HX.out.2)
       have se : decide (b2 ≤ x1) = true := decide_eq_true HX.out.1
       have sf : decide (x1 ≤ s.size) = true := decide_eq_true HX.out.2
       have sg : (0 ≤ (b2 : Int)) = True := eq_true (Int.natCast_nonneg b2)
       clear d1 d2
       go_wp2_with (first | (go_at_call 40; refine (number_parts.sign_st (w := w) (gt := gt) (c := #[.bool ng, .string sw, .string p, .string (⟨#[]⟩ : ByteArray), .int .i64 a2]) (i := b2) ?st x0 q HN.out HB2.out HX0.out HQ.out).mono ?_; (case st => repeat (first | (with_reducible first | exact HP.out | apply number_parts.St.drewN | apply number_parts.St.drew | apply number_parts.St.setA0 | apply number_parts.St.setA | apply number_parts.St.setT) | exact (rfl : (_ : Array Value) = _))); rintro e w7 ⟨rfl, hp⟩; replace HP := Aside0.mk hp; clear hp; have hcs : w7.cell? ⟨gs, 0, none⟩ = some (.string s) := (blk_cell HP.out.two.hs 0).trans rfl; have hca : w7.cell? ⟨ga, 0, none⟩ = some (.int .i64 x0) := (blk_cell HP.out.two.ha 0).trans rfl; have hfa := blk_frozen HP.out.two.ha 0; have ht0 : w7.cell? ⟨gt, 0, none⟩ = some (.bool ng) := (blk_cell HP.out.ht 0).trans rfl; have hf0 := blk_frozen HP.out.ht 0; have ht1 : w7.cell? ⟨gt, 1, none⟩ = some (.string sw) := (blk_cell HP.out.ht 1).trans rfl; have hf1 := blk_frozen HP.out.ht 1; have ht2 : w7.cell? ⟨gt, 2, none⟩ = some (.string p) := (blk_cell HP.out.ht 2).trans rfl; have hf2 := blk_frozen HP.out.ht 2; have ht3 : w7.cell? ⟨gt, 3, none⟩ = some (.string (⟨#[]⟩ : ByteArray)) := (blk_cell HP.out.ht 3).trans rfl; have hf3 := blk_frozen HP.out.ht 3; have ht4 : w7.cell? ⟨gt, 4, none⟩ = some (.int .i64 a2) := (blk_cell HP.out.ht 4).trans rfl; have hf4 := blk_frozen HP.out.ht 4) | (go_at_call 41; refine (number_parts.digits_st (w := w) (gt := gt) (c := #[.bool ng, .string sw, .string p, .string (⟨#[]⟩ : ByteArray), .int .i64 a2]) (i := x0) ?st x1 y HN.out HX0b.out HX1.out HY.out).mono ?_; (case st => repeat (first | (with_reducible first | exact HP.out | apply number_parts.St.drewN | apply number_parts.St.drew | apply number_parts.St.setA0 | apply number_parts.St.setA | apply number_parts.St.setT) | exact (rfl : (_ : Array Value) = _))); rintro e w8 ⟨rfl, hp⟩; replace HP := Aside0.mk hp; clear hp; have hcs : w8.cell? ⟨gs, 0, none⟩ = some (.string s) := (blk_cell HP.out.two.hs 0).trans rfl; have hca : w8.cell? ⟨ga, 0, none⟩ = some (.int .i64 x1) := (blk_cell HP.out.two.ha 0).trans rfl; have hfa := blk_frozen HP.out.two.ha 0; have ht0 : w8.cell? ⟨gt, 0, none⟩ = some (.bool ng) := (blk_cell HP.out.ht 0).trans rfl; have hf0 := blk_frozen HP.out.ht 0; have ht1 : w8.cell? ⟨gt, 1, none⟩ = some (.string sw) := (blk_cell HP.out.ht 1).trans rfl; have hf1 := blk_frozen HP.out.ht 1; have ht2 : w8.cell? ⟨gt, 2, none⟩ = some (.string p) := (blk_cell HP.out.ht 2).trans rfl; have hf2 := blk_frozen HP.out.ht 2; have ht3 : w8.cell? ⟨gt, 3, none⟩ = some (.string (⟨#[]⟩ : ByteArray)) := (blk_cell HP.out.ht 3).trans rfl; have hf3 := blk_frozen HP.out.ht 3; have ht4 : w8.cell? ⟨gt, 4, none⟩ = some (.int .i64 a2) := (blk_cell HP.out.ht 4).trans rfl; have hf4 := blk_frozen HP.out.ht 4))
       go_region
       all_goals
        go_wp2
        go_meet
        case rel =>
         rw [d4.out, ← d5.out]
         exact ⟨_, ⟨by repeat (first | (with_reducible first | exact HP.out | apply number_parts.St.drewN | apply number_parts.St.drew | apply number_parts.St.setA0 | apply number_parts.St.setA | apply number_parts.St.setT) | exact (rfl : (_ : Array Value) = _))⟩⟩
     case rest =>
      obtain ⟨i, HP⟩ := hcut
      have hcs : wc.cell? ⟨gs, 0, none⟩ = some (.string s) := (blk_cell HP.out.two.hs 0).trans rfl
      have hca : wc.cell? ⟨ga, 0, none⟩ = some (.int .i64 i) := (blk_cell HP.out.two.ha 0).trans rfl
      have hfa := blk_frozen HP.out.two.ha 0
      have ht0 : wc.cell? ⟨gt, 0, none⟩ = some (.bool ng) := (blk_cell HP.out.ht 0).trans rfl
      have hf0 := blk_frozen HP.out.ht 0
      have ht1 : wc.cell? ⟨gt, 1, none⟩ = some (.string sw) := (blk_cell HP.out.ht 1).trans rfl
      have hf1 := blk_frozen HP.out.ht 1
      have ht2 : wc.cell? ⟨gt, 2, none⟩ = some (.string p) := (blk_cell HP.out.ht 2).trans rfl
      have hf2 := blk_frozen HP.out.ht 2
      have ht3 : wc.cell? ⟨gt, 3, none⟩ = some (.string x) := (blk_cell HP.out.ht 3).trans rfl
      have hf3 := blk_frozen HP.out.ht 3
      have ht4 : wc.cell? ⟨gt, 4, none⟩ = some (.int .i64 en) := (blk_cell HP.out.ht 4).trans rfl
      have hf4 := blk_frozen HP.out.ht 4
      go_wp2
      refine bodyPost_ret (results_cell_row rfl _ _ gt 48 #[.bool ng, .string sw, .string p, .string x, .int .i64 en] (0, 0) _ rfl (show _ from (by repeat (first | (with_reducible first | exact HP.out | apply number_parts.St.drewN | apply number_parts.St.drew | apply number_parts.St.setA0 | apply number_parts.St.setA | apply number_parts.St.setT) | exact (rfl : (_ : Array Value) = _)) : number_parts.St w _ gs gt ga s #[.bool ng, .string sw, .string p, .string x, .int .i64 en] _).ht) Try.underlying48 rfl (by kernel_rfl)) rfl ?_
      exact ⟨rfl, (by repeat (first | (with_reducible first | exact HP.out | apply number_parts.St.drewN | apply number_parts.St.drew | apply number_parts.St.setA0 | apply number_parts.St.setA | apply number_parts.St.setT) | exact (rfl : (_ : Array Value) = _)) : number_parts.St w _ gs gt ga s #[.bool ng, .string sw, .string p, .string x, .int .i64 en] _).b⟩

set_option maxHeartbeats 40000000 in
set_option maxRecDepth 100000 in
theorem number_parts.walk0 (s sw p y x : ByteArray) (ng q : Bool) (a0 a1 b1 p1 a2 b2 x0 x1 en : Nat) (w : World) (hs : s.size ≤ 140737488351232)
  (h0 : number_parts.sgn s 0 = a0) (hn : number_parts.neg s 0 = ng) (h0b : a0 ≤ s.size) (h1 : number_parts.stop s a0 = a1) (h1b : a1 ≤ s.size) (hsw : s.extract a0 a1 = sw) (hb1 : b1 = a1 + 1)
  (hD : number_parts.DotWay s a1 b1 p1 a2 p) (hp1 : a1 < s.size → number_parts.stop s b1 = p1) (h2b : a2 ≤ s.size) (hb2 : b2 = a2 + 1)
  (hZ : ((sw.toList == ([] : List UInt8)) && (p.toList == ([] : List UInt8))) = true)
  (hx0 : a2 < s.size → number_parts.sgn s b2 = x0) (hq : number_parts.neg s b2 = q) (hx0b : a2 < s.size → x0 ≤ s.size) (hx1 : a2 < s.size → number_parts.stop s x0 = x1) (hy : s.extract x0 x1 = y) (hx1b : a2 < s.size → b2 ≤ x1 ∧ x1 ≤ s.size) :
  Calls Try.prog 25 #[.string s] w fun e w' => e = .returned (.agg #[.bool false, .string (⟨#[]⟩ : ByteArray), .string (⟨#[]⟩ : ByteArray), .string (⟨#[]⟩ : ByteArray), .int .i64 0]) ∧ Below w.heap.size w w' := by
 have hu := Try.underlying48
 have HB1 : Aside0 (a1 < s.size → b1 ≤ s.size) := ⟨fun h => by omega⟩
 have HB2 : Aside0 (a2 < s.size → b2 ≤ s.size) := ⟨fun h => by omega⟩
 have HN := Aside0.mk hs
 have H0 := Aside0.mk h0
 have HNG := Aside0.mk hn
 have H0b := Aside0.mk h0b
 have H1 := Aside0.mk h1
 have HSW := Aside0.mk hsw
 have HQ := Aside0.mk hq
 have HY := Aside0.mk hy
 have hW1 : wrap64 ((a1 : Int) + 1) = (b1 : Int) := by rw [hb1]; exact number_parts.wr1 h1b hs
 have hW2 : wrap64 ((b1 : Int) - 1) = (a1 : Int) := by rw [hb1]; exact number_parts.wr2 h1b hs
 have hW3 : wrap64 ((a2 : Int) + 1) = (b2 : Int) := by rw [hb2]; exact number_parts.wr1 h2b hs
 have HP1 := Aside0.mk hp1
 have HX0 := Aside0.mk hx0
 have HX0b := Aside0.mk hx0b
 have HX1 := Aside0.mk hx1
 have HX1b := Aside0.mk hx1b
 clear hs h0 hn h0b h1 hsw hq hy hb1 hb2 hp1 hx0 hx0b hx1 hx1b h1b h2b
 have HD : (∃ bw bp : Bool, (sw.toList == ([] : List UInt8)) = bw ∧ (p.toList == ([] : List UInt8)) = bp) := ⟨_, _, rfl, rfl⟩
 obtain ⟨bw, bp, hbw, hbp⟩ := HD
 rw [hbw, hbp] at hZ
 have hbw1 : (sw.toList != ([] : List UInt8)) = !bw := by rw [← hbw]; rfl
 have hbp1 : (p.toList != ([] : List UInt8)) = !bp := by rw [← hbp]; rfl
 obtain ⟨bd, hbd⟩ : ∃ bd : Bool, bd = number_parts.isDot s a1 := ⟨_, rfl⟩
 have HBD := Aside0.mk hbd
 have HD := Aside0.mk hD
 clear hbd hD
 go_enter Try.func25, Try.ntmps25
 go_upto_region 6 with (first | ((with_reducible refine gate_dst (N := 1) rfl ?_); (try (refine gate_guard (by rfl) ?_; dsimp only)); refine box_event ?hg (N := 1) ?hd (cs := #[.string s]) (t := 9) ?hr ?_; (case hd => rfl); (case hg => rfl); (case hr => first | (go_simp; done) | (go_simp; rfl)); intro gs hg w1 hbox hb; have KB1 := Aside0.mk hb; have KS1 := Aside0.mk hbox; have KG1 := Aside0.mk hg; clear hg hbox hb) | ((with_reducible refine gate_dst (N := 2) rfl ?_); (try (refine gate_guard (by rfl) ?_; dsimp only)); refine box_event ?hg (N := 2) ?hd (cs := #[.bool false, .string (⟨#[]⟩ : ByteArray), .string (⟨#[]⟩ : ByteArray), .string (⟨#[]⟩ : ByteArray), .int .i64 0]) (t := 48) ?hr ?_; (case hd => rfl); (case hg => rfl); (case hr => first | (go_simp; done) | (go_simp; rfl)); intro gt hg w2 hbox hb; have KB2 := Aside0.mk hb; have KS2 := Aside0.mk hbox; have KG2 := Aside0.mk hg; clear hg hbox hb) | ((with_reducible refine gate_dst (N := 3) rfl ?_); (try (refine gate_guard (by rfl) ?_; dsimp only)); refine box_event ?hg (N := 3) ?hd (cs := #[.int .i64 0]) (t := 3) ?hr ?_; (case hd => rfl); (case hg => rfl); (case hr => first | (go_simp; done) | (go_simp; rfl)); intro ga hg w3 hbox hb; have KB3 := Aside0.mk hb; have KS3 := Aside0.mk hbox; have KG3 := Aside0.mk hg; clear hg hbox hb; have HP := Aside0.mk (number_parts.St.start KG1.out KS1.out KB1.out KG2.out KS2.out KB2.out KG3.out KS3.out KB3.out); have n1 : gs ≠ gt := Nat.ne_of_lt HP.out.o1; have n2 : gt ≠ gs := Nat.ne_of_gt HP.out.o1; have n3 : gt ≠ ga := Nat.ne_of_lt HP.out.o2; have n4 : ga ≠ gt := Nat.ne_of_gt HP.out.o2; have n5 : gs ≠ ga := Nat.ne_of_lt HP.out.two.lt; have n6 : ga ≠ gs := Nat.ne_of_gt HP.out.two.lt; have hcs : w3.cell? ⟨gs, 0, none⟩ = some (.string s) := (blk_cell HP.out.two.hs 0).trans rfl; have hca : w3.cell? ⟨ga, 0, none⟩ = some (.int .i64 0) := (blk_cell HP.out.two.ha 0).trans rfl; have hfa := blk_frozen HP.out.two.ha 0; have ht0 : w3.cell? ⟨gt, 0, none⟩ = some (.bool false) := (blk_cell HP.out.ht 0).trans rfl; have hf0 := blk_frozen HP.out.ht 0; have ht1 : w3.cell? ⟨gt, 1, none⟩ = some (.string (⟨#[]⟩ : ByteArray)) := (blk_cell HP.out.ht 1).trans rfl; have hf1 := blk_frozen HP.out.ht 1; have ht2 : w3.cell? ⟨gt, 2, none⟩ = some (.string (⟨#[]⟩ : ByteArray)) := (blk_cell HP.out.ht 2).trans rfl; have hf2 := blk_frozen HP.out.ht 2; have ht3 : w3.cell? ⟨gt, 3, none⟩ = some (.string (⟨#[]⟩ : ByteArray)) := (blk_cell HP.out.ht 3).trans rfl; have hf3 := blk_frozen HP.out.ht 3; have ht4 : w3.cell? ⟨gt, 4, none⟩ = some (.int .i64 0) := (blk_cell HP.out.ht 4).trans rfl; have hf4 := blk_frozen HP.out.ht 4) | (go_at_call 40; refine (number_parts.sign_st (w := w) (gt := gt) (c := #[.bool false, .string (⟨#[]⟩ : ByteArray), .string (⟨#[]⟩ : ByteArray), .string (⟨#[]⟩ : ByteArray), .int .i64 0]) (i := 0) ?st a0 ng HN.out (Nat.zero_le _) H0.out HNG.out).mono ?_; (case st => repeat (first | (with_reducible first | exact HP.out | apply number_parts.St.drewN | apply number_parts.St.drew | apply number_parts.St.setA0 | apply number_parts.St.setA | apply number_parts.St.setT) | exact (rfl : (_ : Array Value) = _))); rintro e w4 ⟨rfl, hp⟩; replace HP := Aside0.mk hp; clear hp; have hcs : w4.cell? ⟨gs, 0, none⟩ = some (.string s) := (blk_cell HP.out.two.hs 0).trans rfl; have hca : w4.cell? ⟨ga, 0, none⟩ = some (.int .i64 a0) := (blk_cell HP.out.two.ha 0).trans rfl; have hfa := blk_frozen HP.out.two.ha 0; have ht0 : w4.cell? ⟨gt, 0, none⟩ = some (.bool false) := (blk_cell HP.out.ht 0).trans rfl; have hf0 := blk_frozen HP.out.ht 0; have ht1 : w4.cell? ⟨gt, 1, none⟩ = some (.string (⟨#[]⟩ : ByteArray)) := (blk_cell HP.out.ht 1).trans rfl; have hf1 := blk_frozen HP.out.ht 1; have ht2 : w4.cell? ⟨gt, 2, none⟩ = some (.string (⟨#[]⟩ : ByteArray)) := (blk_cell HP.out.ht 2).trans rfl; have hf2 := blk_frozen HP.out.ht 2; have ht3 : w4.cell? ⟨gt, 3, none⟩ = some (.string (⟨#[]⟩ : ByteArray)) := (blk_cell HP.out.ht 3).trans rfl; have hf3 := blk_frozen HP.out.ht 3; have ht4 : w4.cell? ⟨gt, 4, none⟩ = some (.int .i64 0) := (blk_cell HP.out.ht 4).trans rfl; have hf4 := blk_frozen HP.out.ht 4) | (go_at_call 41; refine (number_parts.digits_st (w := w) (gt := gt) (c := #[.bool ng, .string (⟨#[]⟩ : ByteArray), .string (⟨#[]⟩ : ByteArray), .string (⟨#[]⟩ : ByteArray), .int .i64 0]) (i := a0) ?st a1 sw HN.out H0b.out H1.out HSW.out).mono ?_; (case st => repeat (first | (with_reducible first | exact HP.out | apply number_parts.St.drewN | apply number_parts.St.drew | apply number_parts.St.setA0 | apply number_parts.St.setA | apply number_parts.St.setT) | exact (rfl : (_ : Array Value) = _))); rintro e w5 ⟨rfl, hp⟩; replace HP := Aside0.mk hp; clear hp; have hcs : w5.cell? ⟨gs, 0, none⟩ = some (.string s) := (blk_cell HP.out.two.hs 0).trans rfl; have hca : w5.cell? ⟨ga, 0, none⟩ = some (.int .i64 a1) := (blk_cell HP.out.two.ha 0).trans rfl; have hfa := blk_frozen HP.out.two.ha 0; have ht0 : w5.cell? ⟨gt, 0, none⟩ = some (.bool ng) := (blk_cell HP.out.ht 0).trans rfl; have hf0 := blk_frozen HP.out.ht 0; have ht1 : w5.cell? ⟨gt, 1, none⟩ = some (.string (⟨#[]⟩ : ByteArray)) := (blk_cell HP.out.ht 1).trans rfl; have hf1 := blk_frozen HP.out.ht 1; have ht2 : w5.cell? ⟨gt, 2, none⟩ = some (.string (⟨#[]⟩ : ByteArray)) := (blk_cell HP.out.ht 2).trans rfl; have hf2 := blk_frozen HP.out.ht 2; have ht3 : w5.cell? ⟨gt, 3, none⟩ = some (.string (⟨#[]⟩ : ByteArray)) := (blk_cell HP.out.ht 3).trans rfl; have hf3 := blk_frozen HP.out.ht 3; have ht4 : w5.cell? ⟨gt, 4, none⟩ = some (.int .i64 0) := (blk_cell HP.out.ht 4).trans rfl; have hf4 := blk_frozen HP.out.ht 4))
 go_cut [24] (fun v24 wc => v24 = .bool bd ∧ Aside0 (number_parts.St w wc gs gt ga s #[.bool ng, .string sw, .string (⟨#[]⟩ : ByteArray), .string (⟨#[]⟩ : ByteArray), .int .i64 0] a1))
 case first =>
  by_cases d1 : a1 < s.size
  ·obtain ⟨qa, qb, qc, qd, qe, qf⟩ := number_parts.at_in d1
   have d2 : bd = (bt s (a1 : Nat) == 46) := by rw [HBD.out]; unfold number_parts.isDot; rw [qd]; rfl
   have HD2 := Aside0.mk d2
   clear d1 d2
   go_wp2
   go_meet
   case rel => exact ⟨by rw [HD2.out], ⟨by repeat (first | (with_reducible first | exact HP.out | apply number_parts.St.drewN | apply number_parts.St.drew | apply number_parts.St.setA0 | apply number_parts.St.setA | apply number_parts.St.setT) | exact (rfl : (_ : Array Value) = _))⟩⟩
  ·obtain ⟨qa, qb⟩ := number_parts.at_out d1
   have d2 : bd = false := by rw [HBD.out]; unfold number_parts.isDot; rw [qb]; rfl
   have HD2 := Aside0.mk d2
   clear d1 d2
   go_wp2
   go_meet
   case rel => exact ⟨by rw [HD2.out], ⟨by repeat (first | (with_reducible first | exact HP.out | apply number_parts.St.drewN | apply number_parts.St.drew | apply number_parts.St.setA0 | apply number_parts.St.setA | apply number_parts.St.setT) | exact (rfl : (_ : Array Value) = _))⟩⟩
 case rest =>
  obtain ⟨rfl, HP⟩ := hcut
  have hcs : wc.cell? ⟨gs, 0, none⟩ = some (.string s) := (blk_cell HP.out.two.hs 0).trans rfl
  have hca : wc.cell? ⟨ga, 0, none⟩ = some (.int .i64 a1) := (blk_cell HP.out.two.ha 0).trans rfl
  have hfa := blk_frozen HP.out.two.ha 0
  have ht0 : wc.cell? ⟨gt, 0, none⟩ = some (.bool ng) := (blk_cell HP.out.ht 0).trans rfl
  have hf0 := blk_frozen HP.out.ht 0
  have ht1 : wc.cell? ⟨gt, 1, none⟩ = some (.string sw) := (blk_cell HP.out.ht 1).trans rfl
  have hf1 := blk_frozen HP.out.ht 1
  have ht2 : wc.cell? ⟨gt, 2, none⟩ = some (.string (⟨#[]⟩ : ByteArray)) := (blk_cell HP.out.ht 2).trans rfl
  have hf2 := blk_frozen HP.out.ht 2
  have ht3 : wc.cell? ⟨gt, 3, none⟩ = some (.string (⟨#[]⟩ : ByteArray)) := (blk_cell HP.out.ht 3).trans rfl
  have hf3 := blk_frozen HP.out.ht 3
  have ht4 : wc.cell? ⟨gt, 4, none⟩ = some (.int .i64 0) := (blk_cell HP.out.ht 4).trans rfl
  have hf4 := blk_frozen HP.out.ht 4
  go_upto_if 24 with (fail)
  go_cut [] (fun wc => Aside0 (number_parts.St w wc gs gt ga s #[.bool ng, .string sw, .string p, .string (⟨#[]⟩ : ByteArray), .int .i64 0] a2))
  case first =>
   rcases HD.out with ⟨d1, d2, d3⟩ | ⟨d1, d2, d3, d4⟩ | ⟨d1, d2, d3, d4, d5, d6⟩ | ⟨d1, d2, d3, d4, d5, d6⟩
   ·have d4 : bd = false := by rw [HBD.out]; unfold number_parts.isDot; rw [decide_eq_false d1]; rfl
    subst d4
    replace d2 := Aside0.mk d2
    replace d3 := Aside0.mk d3
    clear d1
    go_wp2
    go_meet
    case rel =>
     rw [d2.out, d3.out]
     exact ⟨by repeat (first | (with_reducible first | exact HP.out | apply number_parts.St.drewN | apply number_parts.St.drew | apply number_parts.St.setA0 | apply number_parts.St.setA | apply number_parts.St.setT) | exact (rfl : (_ : Array Value) = _))⟩
   ·have d5 : bd = false := by rw [HBD.out]; unfold number_parts.isDot; rw [d2, Bool.and_false]
    subst d5
    replace d3 := Aside0.mk d3
    replace d4 := Aside0.mk d4
    clear d1 d2
    go_wp2
    go_meet
    case rel =>
     rw [d3.out, d4.out]
     exact ⟨by repeat (first | (with_reducible first | exact HP.out | apply number_parts.St.drewN | apply number_parts.St.drew | apply number_parts.St.setA0 | apply number_parts.St.setA | apply number_parts.St.setT) | exact (rfl : (_ : Array Value) = _))⟩
   ·have HPP := Aside0.mk d5.symm
    have HP2 := Aside0.mk (HP1.out d1)
    have HB3 := Aside0.mk (HB1.out d1)
    have d7 : bp = true := hbp.symm.trans d4
    have d8 : bd = true := by rw [HBD.out]; unfold number_parts.isDot; rw [decide_eq_true d1, d2]; rfl
    replace d6 := Aside0.mk d6
    clear d1 d2 d4 d5 HP1 HB1
    have HP1 := HP2
    have HB1 := HB3
    subst d7
    subst d8
    have d9 := d3.symm
    subst d9
    go_wp2_with (first | (go_at_call 41; refine (number_parts.digits_st (w := w) (gt := gt) (c := #[.bool ng, .string sw, .string (⟨#[]⟩ : ByteArray), .string (⟨#[]⟩ : ByteArray), .int .i64 0]) (i := b1) ?st b1 p HN.out HB1.out HP1.out HPP.out).mono ?_; (case st => repeat (first | (with_reducible first | exact HP.out | apply number_parts.St.drewN | apply number_parts.St.drew | apply number_parts.St.setA0 | apply number_parts.St.setA | apply number_parts.St.setT) | exact (rfl : (_ : Array Value) = _))); rintro e w6 ⟨rfl, hp⟩; replace HP := Aside0.mk hp; clear hp; have hcs : w6.cell? ⟨gs, 0, none⟩ = some (.string s) := (blk_cell HP.out.two.hs 0).trans rfl; have hca : w6.cell? ⟨ga, 0, none⟩ = some (.int .i64 b1) := (blk_cell HP.out.two.ha 0).trans rfl; have hfa := blk_frozen HP.out.two.ha 0; have ht0 : w6.cell? ⟨gt, 0, none⟩ = some (.bool ng) := (blk_cell HP.out.ht 0).trans rfl; have hf0 := blk_frozen HP.out.ht 0; have ht1 : w6.cell? ⟨gt, 1, none⟩ = some (.string sw) := (blk_cell HP.out.ht 1).trans rfl; have hf1 := blk_frozen HP.out.ht 1; have ht2 : w6.cell? ⟨gt, 2, none⟩ = some (.string (⟨#[]⟩ : ByteArray)) := (blk_cell HP.out.ht 2).trans rfl; have hf2 := blk_frozen HP.out.ht 2; have ht3 : w6.cell? ⟨gt, 3, none⟩ = some (.string (⟨#[]⟩ : ByteArray)) := (blk_cell HP.out.ht 3).trans rfl; have hf3 := blk_frozen HP.out.ht 3; have ht4 : w6.cell? ⟨gt, 4, none⟩ = some (.int .i64 0) := (blk_cell HP.out.ht 4).trans rfl; have hf4 := blk_frozen HP.out.ht 4))
    go_meet
    case rel =>
     rw [d6.out]
     exact ⟨by repeat (first | (with_reducible first | exact HP.out | apply number_parts.St.drewN | apply number_parts.St.drew | apply number_parts.St.setA0 | apply number_parts.St.setA | apply number_parts.St.setT) | exact (rfl : (_ : Array Value) = _))⟩
   ·have HPP := Aside0.mk d5.symm
    have HP2 := Aside0.mk (HP1.out d1)
    have HB3 := Aside0.mk (HB1.out d1)
    have d7 : bp = false := hbp.symm.trans d4
    have d8 : bd = true := by rw [HBD.out]; unfold number_parts.isDot; rw [decide_eq_true d1, d2]; rfl
    replace d6 := Aside0.mk d6
    clear d1 d2 d3 d4 d5 HP1 HB1
    have HP1 := HP2
    have HB1 := HB3
    subst d7
    subst d8
    go_wp2_with (first | (go_at_call 41; refine (number_parts.digits_st (w := w) (gt := gt) (c := #[.bool ng, .string sw, .string (⟨#[]⟩ : ByteArray), .string (⟨#[]⟩ : ByteArray), .int .i64 0]) (i := b1) ?st p1 p HN.out HB1.out HP1.out HPP.out).mono ?_; (case st => repeat (first | (with_reducible first | exact HP.out | apply number_parts.St.drewN | apply number_parts.St.drew | apply number_parts.St.setA0 | apply number_parts.St.setA | apply number_parts.St.setT) | exact (rfl : (_ : Array Value) = _))); rintro e w6 ⟨rfl, hp⟩; replace HP := Aside0.mk hp; clear hp; have hcs : w6.cell? ⟨gs, 0, none⟩ = some (.string s) := (blk_cell HP.out.two.hs 0).trans rfl; have hca : w6.cell? ⟨ga, 0, none⟩ = some (.int .i64 p1) := (blk_cell HP.out.two.ha 0).trans rfl; have hfa := blk_frozen HP.out.two.ha 0; have ht0 : w6.cell? ⟨gt, 0, none⟩ = some (.bool ng) := (blk_cell HP.out.ht 0).trans rfl; have hf0 := blk_frozen HP.out.ht 0; have ht1 : w6.cell? ⟨gt, 1, none⟩ = some (.string sw) := (blk_cell HP.out.ht 1).trans rfl; have hf1 := blk_frozen HP.out.ht 1; have ht2 : w6.cell? ⟨gt, 2, none⟩ = some (.string (⟨#[]⟩ : ByteArray)) := (blk_cell HP.out.ht 2).trans rfl; have hf2 := blk_frozen HP.out.ht 2; have ht3 : w6.cell? ⟨gt, 3, none⟩ = some (.string (⟨#[]⟩ : ByteArray)) := (blk_cell HP.out.ht 3).trans rfl; have hf3 := blk_frozen HP.out.ht 3; have ht4 : w6.cell? ⟨gt, 4, none⟩ = some (.int .i64 0) := (blk_cell HP.out.ht 4).trans rfl; have hf4 := blk_frozen HP.out.ht 4))
    go_meet
    case rel =>
     rw [d6.out]
     exact ⟨by repeat (first | (with_reducible first | exact HP.out | apply number_parts.St.drewN | apply number_parts.St.drew | apply number_parts.St.setA0 | apply number_parts.St.setA | apply number_parts.St.setT) | exact (rfl : (_ : Array Value) = _))⟩
  case rest =>
   have HP := hcut
   clear hcut
   have hcs : wc.cell? ⟨gs, 0, none⟩ = some (.string s) := (blk_cell HP.out.two.hs 0).trans rfl
   have hca : wc.cell? ⟨ga, 0, none⟩ = some (.int .i64 a2) := (blk_cell HP.out.two.ha 0).trans rfl
   have hfa := blk_frozen HP.out.two.ha 0
   have ht0 : wc.cell? ⟨gt, 0, none⟩ = some (.bool ng) := (blk_cell HP.out.ht 0).trans rfl
   have hf0 := blk_frozen HP.out.ht 0
   have ht1 : wc.cell? ⟨gt, 1, none⟩ = some (.string sw) := (blk_cell HP.out.ht 1).trans rfl
   have hf1 := blk_frozen HP.out.ht 1
   have ht2 : wc.cell? ⟨gt, 2, none⟩ = some (.string p) := (blk_cell HP.out.ht 2).trans rfl
   have hf2 := blk_frozen HP.out.ht 2
   have ht3 : wc.cell? ⟨gt, 3, none⟩ = some (.string (⟨#[]⟩ : ByteArray)) := (blk_cell HP.out.ht 3).trans rfl
   have hf3 := blk_frozen HP.out.ht 3
   have ht4 : wc.cell? ⟨gt, 4, none⟩ = some (.int .i64 0) := (blk_cell HP.out.ht 4).trans rfl
   have hf4 := blk_frozen HP.out.ht 4
   go_upto_region 11 with (fail)
   go_cut [42] (fun v42 wc => v42 = .bool true ∧ Aside0 (number_parts.St w wc gs gt ga s #[.bool ng, .string sw, .string p, .string (⟨#[]⟩ : ByteArray), .int .i64 0] a2))
   case first =>
    obtain ⟨z1, z2⟩ := Bool.and_eq_true_iff.1 hZ
    subst z1
    subst z2
    go_wp2
    go_meet
    case rel => exact ⟨rfl, ⟨by repeat (first | (with_reducible first | exact HP.out | apply number_parts.St.drewN | apply number_parts.St.drew | apply number_parts.St.setA0 | apply number_parts.St.setA | apply number_parts.St.setT) | exact (rfl : (_ : Array Value) = _))⟩⟩
   case rest =>
    obtain ⟨rfl, HP⟩ := hcut
    have hcs : wc.cell? ⟨gs, 0, none⟩ = some (.string s) := (blk_cell HP.out.two.hs 0).trans rfl
    have hca : wc.cell? ⟨ga, 0, none⟩ = some (.int .i64 a2) := (blk_cell HP.out.two.ha 0).trans rfl
    have hfa := blk_frozen HP.out.two.ha 0
    have ht0 : wc.cell? ⟨gt, 0, none⟩ = some (.bool ng) := (blk_cell HP.out.ht 0).trans rfl
    have hf0 := blk_frozen HP.out.ht 0
    have ht1 : wc.cell? ⟨gt, 1, none⟩ = some (.string sw) := (blk_cell HP.out.ht 1).trans rfl
    have hf1 := blk_frozen HP.out.ht 1
    have ht2 : wc.cell? ⟨gt, 2, none⟩ = some (.string p) := (blk_cell HP.out.ht 2).trans rfl
    have hf2 := blk_frozen HP.out.ht 2
    have ht3 : wc.cell? ⟨gt, 3, none⟩ = some (.string (⟨#[]⟩ : ByteArray)) := (blk_cell HP.out.ht 3).trans rfl
    have hf3 := blk_frozen HP.out.ht 3
    have ht4 : wc.cell? ⟨gt, 4, none⟩ = some (.int .i64 0) := (blk_cell HP.out.ht 4).trans rfl
    have hf4 := blk_frozen HP.out.ht 4
    go_wp2
    refine bodyPost_ret (results_cell_row rfl _ _ gt 48 #[.bool false, .string (⟨#[]⟩ : ByteArray), .string (⟨#[]⟩ : ByteArray), .string (⟨#[]⟩ : ByteArray), .int .i64 0] (0, 0) _ rfl (show _ from (by repeat (first | (with_reducible first | exact HP.out | apply number_parts.St.drewN | apply number_parts.St.drew | apply number_parts.St.setA0 | apply number_parts.St.setA | apply number_parts.St.setT) | exact (rfl : (_ : Array Value) = _)) : number_parts.St w _ gs gt ga s #[.bool false, .string (⟨#[]⟩ : ByteArray), .string (⟨#[]⟩ : ByteArray), .string (⟨#[]⟩ : ByteArray), .int .i64 0] _).ht) Try.underlying48 rfl (by kernel_rfl)) rfl ?_
    exact ⟨rfl, (by repeat (first | (with_reducible first | exact HP.out | apply number_parts.St.drewN | apply number_parts.St.drew | apply number_parts.St.setA0 | apply number_parts.St.setA | apply number_parts.St.setT) | exact (rfl : (_ : Array Value) = _)) : number_parts.St w _ gs gt ga s #[.bool false, .string (⟨#[]⟩ : ByteArray), .string (⟨#[]⟩ : ByteArray), .string (⟨#[]⟩ : ByteArray), .int .i64 0] _).b⟩

theorem number_parts.calls (a0 : ByteArray) (r1 : Bool) (r2 r3 r4 : ByteArray) (r5 : Int) (w : World) (h : number_parts.f a0 = some (r1, r2, r3, r4, r5)) :
  Calls Try.prog 25 #[.string a0] w fun e w' => e = .returned (.agg #[.bool r1, .string r2, .string r3, .string r4, .int .i64 r5]) ∧ Below w.heap.size w w' := by
 unfold number_parts.f at h
 by_cases hs : a0.size ≤ 140737488351232
 ·rw [if_pos hs] at h
  have b0 := number_parts.sgn_bd a0 0 (Nat.zero_le _)
  have b1 := number_parts.stop_bd a0 (number_parts.w0 a0) b0.2.1
  have hsw := number_parts.cut_empty (s := a0) b1.1 b1.2
  have hway := number_parts.dot_way a0 b1.2
  have bp : number_parts.w1 a0 < a0.size → number_parts.w1 a0 + 1 ≤ number_parts.stop a0 (number_parts.w1 a0 + 1) ∧ number_parts.stop a0 (number_parts.w1 a0 + 1) ≤ a0.size := fun hl => number_parts.stop_bd a0 _ hl
  have hp : ((number_parts.part a0).toList == ([] : List UInt8)) = decide (number_parts.at2 a0 = number_parts.w1 a0) ∧ number_parts.at2 a0 ≤ a0.size := by
   have e0 : ((⟨#[]⟩ : ByteArray).toList == ([] : List UInt8)) = true := by rw [ByteArray.toList_eq]; rfl
   rcases hway with ⟨d1, d2, d3⟩ | ⟨d1, d2, d3, d4⟩ | ⟨d1, d2, d3, d4, d5, d6⟩ | ⟨d1, d2, d3, d4, d5, d6⟩
   ·rw [d2, d3, e0, decide_eq_true rfl]
    exact ⟨rfl, b1.2⟩
   ·rw [d3, d4, e0, decide_eq_true rfl]
    exact ⟨rfl, b1.2⟩
   ·rw [d4, d6, decide_eq_true rfl]
    exact ⟨rfl, b1.2⟩
   ·rw [d4, d6, decide_eq_false (by omega)]
    exact ⟨rfl, (bp d1).2⟩
  have hsw' : ((a0.extract (number_parts.w0 a0) (number_parts.w1 a0)).toList == ([] : List UInt8)) = decide (number_parts.w0 a0 = number_parts.w1 a0) := hsw
  by_cases hz : number_parts.w1 a0 = number_parts.w0 a0 ∧ number_parts.at2 a0 = number_parts.w1 a0
  ·rw [if_pos hz] at h
   simp only [Option.some.injEq, Prod.mk.injEq] at h
   obtain ⟨rfl, rfl, rfl, rfl, rfl⟩ := h
   exact number_parts.walk0 a0 (a0.extract (number_parts.w0 a0) (number_parts.w1 a0)) (number_parts.part a0) _ ⟨#[]⟩ _ (number_parts.neg a0 (number_parts.at2 a0 + 1)) _ _ _ _ _ _ (number_parts.sgn a0 (number_parts.at2 a0 + 1)) _ 0 w hs rfl rfl b0.2.1 rfl b1.2 rfl rfl hway (fun _ => rfl) hp.2 rfl
    (by rw [hsw', hp.1, decide_eq_true hz.1.symm, decide_eq_true hz.2]; rfl) (fun _ => rfl) rfl (fun hl => (number_parts.sgn_bd a0 _ hl).2.1) (fun _ => rfl) rfl (fun hl => by have := number_parts.sgn_bd a0 (number_parts.at2 a0 + 1) hl; have := number_parts.stop_bd a0 _ this.2.1; omega)
  ·rw [if_neg hz] at h
   simp only [Option.some.injEq, Prod.mk.injEq] at h
   obtain ⟨rfl, rfl, rfl, rfl, rfl⟩ := h
   have hE := number_parts.exp_way a0 hp.2
   have k := number_parts.walk a0 (a0.extract (number_parts.w0 a0) (number_parts.w1 a0)) (number_parts.part a0) _ (if number_parts.hasE a0 = true then a0.extract (number_parts.at2 a0 + 1) (number_parts.x1 a0) else ⟨#[]⟩) _ (number_parts.neg a0 (number_parts.at2 a0 + 1)) _ _ _ _ _ _ _ _ (if number_parts.hasE a0 = true then number_parts.x1 a0 else number_parts.at2 a0) w hs rfl rfl b0.2.1 rfl b1.2 rfl rfl hway (fun _ => rfl) hp.2 rfl
    (by rw [hsw', hp.1]; exact Bool.and_eq_false_iff.2 ((Decidable.em (number_parts.w0 a0 = number_parts.w1 a0)).elim (fun h1 => .inr (decide_eq_false (fun h2 => hz ⟨h1.symm, h2⟩))) (fun h1 => .inl (decide_eq_false h1)))) hE (fun _ => rfl) rfl (fun hl => (number_parts.sgn_bd a0 _ hl).2.1) (fun _ => rfl) rfl (fun hl => by have := number_parts.sgn_bd a0 (number_parts.at2 a0 + 1) hl; have := number_parts.stop_bd a0 _ this.2.1; exact ⟨by unfold number_parts.x1 number_parts.x0; omega, this.2⟩)
   refine k.mono fun e w' hk => ⟨?_, hk.2⟩
   rw [hk.1]
   cases number_parts.hasE a0 <;> rfl
 ·rw [if_neg hs] at h
  cases h

/-! ### number_Scan: function 14 -/
def number_Scan.f (a0 : ByteArray) : Option (Int) := (number_parts.f a0).bind fun bt103 => (some bt103.2.2.2.2)
set_option maxHeartbeats 8000000 in
set_option maxRecDepth 100000 in
theorem number_Scan.calls (a0 : ByteArray) (r : Int) (w : World) (h : number_Scan.f a0 = some r) :
  Calls Try.prog 14 #[.string a0] w fun e w' => e = .returned (.int .i64 r) ∧ Below w.heap.size w w' := by
 have hu48 := Try.underlying48
 have hfl48_4 : ∀ (c0 c1 c2 c3 c4 : Value) (W : World), (Instr.field 48 (.agg #[c0, c1, c2, c3, c4]) 4).run Try.prog W = .ok (c4) W := fun c0 c1 c2 c3 c4 W => by first | rfl | kernel_rfl
 have HB := Aside0.mk (Below.refl w.heap.size w)
 have H : ((number_parts.f a0).bind fun bt103 => (some bt103.2.2.2.2)) = some r := h
 clear h
 replace H := Option.bind_eq_some_iff.mp H
 obtain ⟨⟨t103, t104, t105, t106, t107⟩, A20, H⟩ := H
 try dsimp only at H
 have A2 := Aside0.mk A20
 clear A20
 obtain rfl := Option.some.inj H
 go_enter Try.func14, Try.ntmps14
 go_wp2_with (first | ((with_reducible refine gate_callee (f := 25) rfl ?_); refine goesL_ (some 4) rfl rfl Try.func25 (by kernel_rfl) rfl #[.string a0] rfl goa_ ?_; (with_reducible refine (number_parts.calls a0 t103 t104 t105 t106 t107 _ A2.out).mono ?_); rintro e w3 ⟨rfl, hb⟩; refine ⟨_, rfl, ?_⟩; have n0_ := Aside0.mk (below_step bel_ hb); clear HB; have HB := n0_; clear n0_; clear hb))
 go_ret
 exact ⟨rsl_, bel_⟩

/-! ### token_lexer_word_1: function 16 -/
def token_lexer_word_1.f (a0 : Int) : Option (Bool) := some (a0 == 37)
set_option maxHeartbeats 8000000 in
set_option maxRecDepth 100000 in
theorem token_lexer_word_1.calls (a0 : Int) (r : Bool) (w : World) (h : token_lexer_word_1.f a0 = some r) :
  Calls Try.prog 16 #[.int .u8 a0] w fun e w' => e = .returned (.bool r) ∧ Drawn0 w w' := by
 have H : (some (a0 == 37)) = some r := h
 clear h
 obtain rfl := Option.some.inj H
 go_enter Try.func16, Try.ntmps16
 go_wp2
 go_ret
 exact ⟨by first | rfl | (simp; done) | (simp [*]; done), drs_⟩

/-! ### token_lexer_word_2: function 19 -/
def token_lexer_word_2.f (a0 : Int) : Option (Bool) := some (a0 == 40)
set_option maxHeartbeats 8000000 in
set_option maxRecDepth 100000 in
theorem token_lexer_word_2.calls (a0 : Int) (r : Bool) (w : World) (h : token_lexer_word_2.f a0 = some r) :
  Calls Try.prog 19 #[.int .u8 a0] w fun e w' => e = .returned (.bool r) ∧ Drawn0 w w' := by
 have H : (some (a0 == 40)) = some r := h
 clear h
 obtain rfl := Option.some.inj H
 go_enter Try.func19, Try.ntmps19
 go_wp2
 go_ret
 exact ⟨by first | rfl | (simp; done) | (simp [*]; done), drs_⟩

/-! ### strings_IndexByte: function 21 -/
def strings_IndexByte.f (a0 : ByteArray) (a1 : Int) : Option (Int) := some (Lib.indexByte a0.data.toList a1.toNat.toUInt8)
theorem strings_IndexByte.calls (a0 : ByteArray) (a1 : Int) (r : Int) (w : World) (h : strings_IndexByte.f a0 a1 = some r) :
  Calls Try.prog 21 #[.string a0, .int .u8 a1] w fun e w' => e = .returned (.int .i64 r) ∧ Drawn0 w w' := by
 refine (Try.strings_IndexByte a0 a1 w).mono ?_
 rintro e w' ⟨rfl, rfl⟩
 exact ⟨by rw [Option.some.inj h], Drawn0.refl _⟩

end Go.Proofs.Ytholgbdfflabhaa.PTk
end
section
namespace Go.Proofs.Ytholgbdfflabhaa.PTk
open Go.RowKit Go.Proofs.YtholgbdfflabhaaW.PrintWords Go.Proofs.YtholgbdfflabhaaW.PrintLast Go.Proofs.YtholgbdfflabhaaW.PrintMore
attribute [local go_sem] max2_int min2_int max_two min_two max_three min_three max_four min_four
open Go.Proofs.Ytholgbdfflabhaa.Opn Go.Proofs.Ytholgbdfflabhaa.Giv

/-! ### token_lexer_begins_1: function 26 -/
def token_lexer_begins_1.f (a0 : Int) : Option (Bool) := some (a0 == 45)
set_option maxHeartbeats 8000000 in
set_option maxRecDepth 100000 in
theorem token_lexer_begins_1.calls (a0 : Int) (r : Bool) (w : World) (h : token_lexer_begins_1.f a0 = some r) :
  Calls Try.prog 26 #[.int .u8 a0] w fun e w' => e = .returned (.bool r) ∧ Drawn0 w w' := by
 have H : (some (a0 == 45)) = some r := h
 clear h
 obtain rfl := Option.some.inj H
 go_enter Try.func26, Try.ntmps26
 go_wp2
 go_ret
 exact ⟨by first | rfl | (simp; done) | (simp [*]; done), drs_⟩

/-! ### token_Letter: function 27 -/
def token_Letter.f (a0 : Int) : Option (Bool) := if a0 ≥ 97 then (if a0 ≤ 122 then (some true) else (if a0 ≥ 65 then (if a0 ≤ 90 then (some true) else (if a0 = 95 then (some true) else (some (decide (a0 ≥ 128))))) else (if a0 = 95 then (some true) else (some (decide (a0 ≥ 128)))))) else (if a0 ≥ 65 then (if a0 ≤ 90 then (some true) else (if a0 = 95 then (some true) else (some (decide (a0 ≥ 128))))) else (if a0 = 95 then (some true) else (some (decide (a0 ≥ 128)))))
set_option maxHeartbeats 8000000 in
set_option maxRecDepth 100000 in
theorem token_Letter.calls (a0 : Int) (r : Bool) (w : World) (h : token_Letter.f a0 = some r) :
  Calls Try.prog 27 #[.int .u8 a0] w fun e w' => e = .returned (.bool r) ∧ Drawn0 w w' := by
 have H : (if a0 ≥ 97 then (if a0 ≤ 122 then (some true) else (if a0 ≥ 65 then (if a0 ≤ 90 then (some true) else (if a0 = 95 then (some true) else (some (decide (a0 ≥ 128))))) else (if a0 = 95 then (some true) else (some (decide (a0 ≥ 128)))))) else (if a0 ≥ 65 then (if a0 ≤ 90 then (some true) else (if a0 = 95 then (some true) else (some (decide (a0 ≥ 128))))) else (if a0 = 95 then (some true) else (some (decide (a0 ≥ 128)))))) = some r := h
 clear h
 by_cases c2 : a0 ≥ 97
 ·rw [if_pos c2] at H
  have c2b0 : decide (97 ≤ a0) = true := decide_eq_true c2
  clear c2
  by_cases c3 : a0 ≤ 122
  ·rw [if_pos c3] at H
   have c3b0 : decide (a0 ≤ 122) = true := decide_eq_true c3
   clear c3
   obtain rfl := Option.some.inj H
   go_enter Try.func27, Try.ntmps27
   go_wp2
   go_ret
   exact ⟨by first | rfl | (simp; done) | (simp [*]; done), drs_⟩
  ·rw [if_neg c3] at H
   have c3b0 : decide (a0 ≤ 122) = false := decide_eq_false c3
   clear c3
   by_cases c4 : a0 ≥ 65
   ·rw [if_pos c4] at H
    have c4b0 : decide (65 ≤ a0) = true := decide_eq_true c4
    clear c4
    by_cases c5 : a0 ≤ 90
    ·rw [if_pos c5] at H
     have c5b0 : decide (a0 ≤ 90) = true := decide_eq_true c5
     clear c5
     obtain rfl := Option.some.inj H
     go_enter Try.func27, Try.ntmps27
     go_wp2
     go_ret
     exact ⟨by first | rfl | (simp; done) | (simp [*]; done), drs_⟩
    ·rw [if_neg c5] at H
     have c5b0 : decide (a0 ≤ 90) = false := decide_eq_false c5
     clear c5
     by_cases c6 : a0 = 95
     ·rw [if_pos c6] at H
      have c6b0 : (a0 == 95) = true := beq_iff_eq.mpr c6
      have c6b1 : (a0 != 95) = false := bne_eq_false_iff_eq.mpr c6
      clear c6
      obtain rfl := Option.some.inj H
      go_enter Try.func27, Try.ntmps27
      go_wp2
      go_ret
      exact ⟨by first | rfl | (simp; done) | (simp [*]; done), drs_⟩
     ·rw [if_neg c6] at H
      have c6b0 : (a0 == 95) = false := beq_eq_false_iff_ne.mpr c6
      have c6b1 : (a0 != 95) = true := bne_iff_ne.mpr c6
      obtain rfl := Option.some.inj H
      go_enter Try.func27, Try.ntmps27
      go_wp2
      go_ret
      exact ⟨by first | rfl | (simp; done) | (simp [*]; done), drs_⟩
   ·rw [if_neg c4] at H
    have c4b0 : decide (65 ≤ a0) = false := decide_eq_false c4
    clear c4
    by_cases c7 : a0 = 95
    ·rw [if_pos c7] at H
     have c7b0 : (a0 == 95) = true := beq_iff_eq.mpr c7
     have c7b1 : (a0 != 95) = false := bne_eq_false_iff_eq.mpr c7
     clear c7
     obtain rfl := Option.some.inj H
     go_enter Try.func27, Try.ntmps27
     go_wp2
     go_ret
     exact ⟨by first | rfl | (simp; done) | (simp [*]; done), drs_⟩
    ·rw [if_neg c7] at H
     have c7b0 : (a0 == 95) = false := beq_eq_false_iff_ne.mpr c7
     have c7b1 : (a0 != 95) = true := bne_iff_ne.mpr c7
     obtain rfl := Option.some.inj H
     go_enter Try.func27, Try.ntmps27
     go_wp2
     go_ret
     exact ⟨by first | rfl | (simp; done) | (simp [*]; done), drs_⟩
 ·rw [if_neg c2] at H
  have c2b0 : decide (97 ≤ a0) = false := decide_eq_false c2
  clear c2
  by_cases c8 : a0 ≥ 65
  ·rw [if_pos c8] at H
   have c8b0 : decide (65 ≤ a0) = true := decide_eq_true c8
   clear c8
   by_cases c9 : a0 ≤ 90
   ·rw [if_pos c9] at H
    have c9b0 : decide (a0 ≤ 90) = true := decide_eq_true c9
    clear c9
    obtain rfl := Option.some.inj H
    go_enter Try.func27, Try.ntmps27
    go_wp2
    go_ret
    exact ⟨by first | rfl | (simp; done) | (simp [*]; done), drs_⟩
   ·rw [if_neg c9] at H
    have c9b0 : decide (a0 ≤ 90) = false := decide_eq_false c9
    clear c9
    by_cases c10 : a0 = 95
    ·rw [if_pos c10] at H
     have c10b0 : (a0 == 95) = true := beq_iff_eq.mpr c10
     have c10b1 : (a0 != 95) = false := bne_eq_false_iff_eq.mpr c10
     clear c10
     obtain rfl := Option.some.inj H
     go_enter Try.func27, Try.ntmps27
     go_wp2
     go_ret
     exact ⟨by first | rfl | (simp; done) | (simp [*]; done), drs_⟩
    ·rw [if_neg c10] at H
     have c10b0 : (a0 == 95) = false := beq_eq_false_iff_ne.mpr c10
     have c10b1 : (a0 != 95) = true := bne_iff_ne.mpr c10
     obtain rfl := Option.some.inj H
     go_enter Try.func27, Try.ntmps27
     go_wp2
     go_ret
     exact ⟨by first | rfl | (simp; done) | (simp [*]; done), drs_⟩
  ·rw [if_neg c8] at H
   have c8b0 : decide (65 ≤ a0) = false := decide_eq_false c8
   clear c8
   by_cases c11 : a0 = 95
   ·rw [if_pos c11] at H
    have c11b0 : (a0 == 95) = true := beq_iff_eq.mpr c11
    have c11b1 : (a0 != 95) = false := bne_eq_false_iff_eq.mpr c11
    clear c11
    obtain rfl := Option.some.inj H
    go_enter Try.func27, Try.ntmps27
    go_wp2
    go_ret
    exact ⟨by first | rfl | (simp; done) | (simp [*]; done), drs_⟩
   ·rw [if_neg c11] at H
    have c11b0 : (a0 == 95) = false := beq_eq_false_iff_ne.mpr c11
    have c11b1 : (a0 != 95) = true := bne_iff_ne.mpr c11
    obtain rfl := Option.some.inj H
    go_enter Try.func27, Try.ntmps27
    go_wp2
    go_ret
    exact ⟨by first | rfl | (simp; done) | (simp [*]; done), drs_⟩

/-! ### token_digit: function 30 -/
def token_digit.f (a0 : Int) : Option (Bool) := if a0 ≥ 48 then (some (decide (a0 ≤ 57))) else (some false)
set_option maxHeartbeats 8000000 in
set_option maxRecDepth 100000 in
theorem token_digit.calls (a0 : Int) (r : Bool) (w : World) (h : token_digit.f a0 = some r) :
  Calls Try.prog 30 #[.int .u8 a0] w fun e w' => e = .returned (.bool r) ∧ Drawn0 w w' := by
 have H : (if a0 ≥ 48 then (some (decide (a0 ≤ 57))) else (some false)) = some r := h
 clear h
 by_cases c2 : a0 ≥ 48
 ·rw [if_pos c2] at H
  have c2b0 : decide (48 ≤ a0) = true := decide_eq_true c2
  clear c2
  obtain rfl := Option.some.inj H
  go_enter Try.func30, Try.ntmps30
  go_wp2
  go_ret
  exact ⟨by first | rfl | (simp; done) | (simp [*]; done), drs_⟩
 ·rw [if_neg c2] at H
  have c2b0 : decide (48 ≤ a0) = false := decide_eq_false c2
  clear c2
  obtain rfl := Option.some.inj H
  go_enter Try.func30, Try.ntmps30
  go_wp2
  go_ret
  exact ⟨by first | rfl | (simp; done) | (simp [*]; done), drs_⟩

/-! ### token_lexer_ident_1: function 29 -/
def token_lexer_ident_1.f (a0 : Int) : Option (Bool) := (token_Letter.f a0).bind fun t108 => (if t108 = true then (some true) else ((token_digit.f a0).bind fun t109 => (if t109 = true then (some true) else (some (a0 == 45)))))
set_option maxHeartbeats 8000000 in
set_option maxRecDepth 100000 in
theorem token_lexer_ident_1.calls (a0 : Int) (r : Bool) (w : World) (h : token_lexer_ident_1.f a0 = some r) :
  Calls Try.prog 29 #[.int .u8 a0] w fun e w' => e = .returned (.bool r) ∧ Drawn0 w w' := by
 have H : ((token_Letter.f a0).bind fun t108 => (if t108 = true then (some true) else ((token_digit.f a0).bind fun t109 => (if t109 = true then (some true) else (some (a0 == 45)))))) = some r := h
 clear h
 replace H := Option.bind_eq_some_iff.mp H
 obtain ⟨t108, A20, H⟩ := H
 try dsimp only at H
 have A2 := Aside0.mk A20
 clear A20
 by_cases c3 : t108 = true
 ·subst c3
  rw [if_pos rfl] at H
  obtain rfl := Option.some.inj H
  go_enter Try.func29, Try.ntmps29
  go_wp2_with (first | ((with_reducible refine gate_callee (f := 27) rfl ?_); refine goesL_ (some 4) rfl rfl Try.func27 (by kernel_rfl) rfl #[.int .u8 a0] rfl goa_ ?_; (with_reducible refine (token_Letter.calls a0 true _ A2.out).mono ?_); rintro e w' ⟨rfl, ⟨nd, rfl⟩⟩; refine ⟨_, rfl, ?_⟩))
  go_ret
  exact ⟨by first | rfl | (simp; done) | (simp [*]; done), drs_⟩
 ·replace c3 := Bool.eq_false_iff.mpr c3
  subst c3
  rw [if_neg (show ¬ (false = true) by decide)] at H
  replace H := Option.bind_eq_some_iff.mp H
  obtain ⟨t109, A40, H⟩ := H
  try dsimp only at H
  have A4 := Aside0.mk A40
  clear A40
  by_cases c5 : t109 = true
  ·subst c5
   rw [if_pos rfl] at H
   obtain rfl := Option.some.inj H
   go_enter Try.func29, Try.ntmps29
   go_wp2_with (first | ((with_reducible refine gate_callee (f := 27) rfl ?_); refine goesL_ (some 4) rfl rfl Try.func27 (by kernel_rfl) rfl #[.int .u8 a0] rfl goa_ ?_; (with_reducible refine (token_Letter.calls a0 false _ A2.out).mono ?_); rintro e w' ⟨rfl, ⟨nd, rfl⟩⟩; refine ⟨_, rfl, ?_⟩) | (go_at_call 30; (with_reducible refine (token_digit.calls a0 true _ A4.out).mono ?_); rintro e w' ⟨rfl, ⟨nd, rfl⟩⟩))
   go_ret
   exact ⟨by first | rfl | (simp; done) | (simp [*]; done), drs_⟩
  ·replace c5 := Bool.eq_false_iff.mpr c5
   subst c5
   rw [if_neg (show ¬ (false = true) by decide)] at H
   obtain rfl := Option.some.inj H
   go_enter Try.func29, Try.ntmps29
   go_wp2_with (first | ((with_reducible refine gate_callee (f := 27) rfl ?_); refine goesL_ (some 4) rfl rfl Try.func27 (by kernel_rfl) rfl #[.int .u8 a0] rfl goa_ ?_; (with_reducible refine (token_Letter.calls a0 false _ A2.out).mono ?_); rintro e w' ⟨rfl, ⟨nd, rfl⟩⟩; refine ⟨_, rfl, ?_⟩) | (go_at_call 30; (with_reducible refine (token_digit.calls a0 false _ A4.out).mono ?_); rintro e w' ⟨rfl, ⟨nd, rfl⟩⟩))
   go_ret
   exact ⟨by first | rfl | (simp; done) | (simp [*]; done), drs_⟩

/-! ### token_hex: function 44 -/
def token_hex.j0 : Nat → Int → Bool → Option (Int)
 | 0, _, _ => none
 | k + 1, x0, x9 => if x9 = true then (some (((x0 - 97) % 256) + 10)) else (if x0 ≥ 65 then (if x0 ≤ 70 then (some (((x0 - 65) % 256) + 10)) else (some (-1))) else (some (-1)))
def token_hex.f (k : Nat) (a0 : Int) : Option (Int) := (token_digit.f a0).bind fun t110 => (if t110 = true then (some ((a0 - 48) % 256)) else (if a0 ≥ 97 then (token_hex.j0 k a0 (decide (a0 ≤ 102))) else (token_hex.j0 k a0 false)))
theorem token_hex.mono_l : ∀ k, (∀ y0 y1, LeO (token_hex.j0 k y0 y1) (token_hex.j0 (k + 1) y0 y1))
 | 0 => fun _ _ r h => by simp [token_hex.j0] at h
 | k + 1 => by
  have ih0 := token_hex.mono_l k
  ·intro y0 y1
   unfold token_hex.j0
   repeat' first
   | (with_reducible exact ih0 _ _)
   | (with_reducible exact LeO.refl _)
   | (with_reducible exact LeO.none _)
   | (with_reducible refine LeO.ite ?_ ?_)
   | (with_reducible refine LeO.bind ?_ (fun _ => ?_))
theorem token_hex.mono : ∀ a0 k, LeO (token_hex.f k a0) (token_hex.f (k + 1) a0) := by
 intro a0 k
 have ih0 := token_hex.mono_l k
 unfold token_hex.f
 repeat' first
   | (with_reducible exact ih0 _ _)
   | (with_reducible exact LeO.refl _)
   | (with_reducible exact LeO.none _)
   | (with_reducible refine LeO.ite ?_ ?_)
   | (with_reducible refine LeO.bind ?_ (fun _ => ?_))
set_option maxHeartbeats 8000000 in
set_option maxRecDepth 100000 in
theorem token_hex.calls (k : Nat) (a0 : Int) (r : Int) (w : World) (h : token_hex.f k a0 = some r) :
  Calls Try.prog 44 #[.int .u8 a0] w fun e w' => e = .returned (.int .i64 r) ∧ Drawn0 w w' := by
 have H : ((token_digit.f a0).bind fun t110 => (if t110 = true then (some ((a0 - 48) % 256)) else (if a0 ≥ 97 then (token_hex.j0 k a0 (decide (a0 ≤ 102))) else (token_hex.j0 k a0 false)))) = some r := h
 clear h
 replace H := Option.bind_eq_some_iff.mp H
 obtain ⟨t110, A20, H⟩ := H
 try dsimp only at H
 have A2 := Aside0.mk A20
 clear A20
 by_cases c3 : t110 = true
 ·subst c3
  rw [if_pos rfl] at H
  obtain rfl := Option.some.inj H
  go_enter Try.func44, Try.ntmps44
  go_wp2_with (first | ((with_reducible refine gate_callee (f := 30) rfl ?_); refine goesL_ (some 5) rfl rfl Try.func30 (by kernel_rfl) rfl #[.int .u8 a0] rfl goa_ ?_; (with_reducible refine (token_digit.calls a0 true _ A2.out).mono ?_); rintro e w' ⟨rfl, ⟨nd, rfl⟩⟩; refine ⟨_, rfl, ?_⟩))
  go_ret
  exact ⟨by first | rfl | (simp; done) | (simp [*]; done), drs_⟩
 ·replace c3 := Bool.eq_false_iff.mpr c3
  subst c3
  rw [if_neg (show ¬ (false = true) by decide)] at H
  have HC4 := Aside0.mk H
  clear H
  go_enter Try.func44, Try.ntmps44
  go_upto_region 3 with (first | ((with_reducible refine gate_callee (f := 30) rfl ?_); refine goesL_ (some 5) rfl rfl Try.func30 (by kernel_rfl) rfl #[.int .u8 a0] rfl goa_ ?_; (with_reducible refine (token_digit.calls a0 false _ A2.out).mono ?_); rintro e w' ⟨rfl, ⟨nd, rfl⟩⟩; refine ⟨_, rfl, ?_⟩))
  (try simp only [Act.put, List.setIfInBounds_toArray, List.set_cons_zero, List.set_cons_succ])
  go_cut [9] (fun v9 wc => ∃ (kq : Nat) (x9_3 : Bool), v9 = .bool x9_3 ∧ Aside0 (token_hex.j0 kq a0 x9_3 = some r) ∧ Aside0 (kq ≤ k) ∧ Drawn0 w wc)
  case first =>
   have H := HC4.out
   clear HC4
   by_cases c5 : a0 ≥ 97
   ·rw [if_pos c5] at H
    have c5b0 : decide (97 ≤ a0) = true := decide_eq_true c5
    clear c5
    (first | rw [c5b0] | (simp only [i64_w, i32_w]; rw [c5b0]) | skip)
    have H' := Aside0.mk H
    clear H
    go_wp2
    go_meet
    case rel => exact ⟨_, (decide (a0 ≤ 102)), rfs_, (by first | exact H' | (subst_vars; exact H')), ⟨ole_⟩, drs_⟩
   ·rw [if_neg c5] at H
    have c5b0 : decide (97 ≤ a0) = false := decide_eq_false c5
    clear c5
    (first | rw [c5b0] | (simp only [i64_w, i32_w]; rw [c5b0]) | skip)
    have H' := Aside0.mk H
    clear H
    go_wp2
    go_meet
    case rel => exact ⟨_, (false), rfs_, (by first | exact H' | (subst_vars; exact H')), ⟨ole_⟩, drs_⟩
  case rest =>
   clear HC4
   try clear p2
   try clear c3
   try clear c4
   try clear c5
   try clear c5b0
   obtain ⟨kq, x9_3, rfl, HA, HJ3, ⟨mc3, rfl⟩⟩ := hcut
   cases kq with
   | zero => exact absurd HA.out (by simp [token_hex.j0])
   | succ kj3 =>
    have H := HA.out
    clear HA
    simp only [token_hex.j0] at H
    by_cases c6 : x9_3 = true
    ·subst c6
     rw [if_pos rfl] at H
     obtain rfl := Option.some.inj H
     go_wp2
     go_ret
     exact ⟨by first | rfl | (simp; done) | (simp [*]; done), drs_⟩
    ·replace c6 := Bool.eq_false_iff.mpr c6
     subst c6
     rw [if_neg (show ¬ (false = true) by decide)] at H
     by_cases c7 : a0 ≥ 65
     ·rw [if_pos c7] at H
      have c7b0 : decide (65 ≤ a0) = true := decide_eq_true c7
      clear c7
      by_cases c8 : a0 ≤ 70
      ·rw [if_pos c8] at H
       have c8b0 : decide (a0 ≤ 70) = true := decide_eq_true c8
       clear c8
       obtain rfl := Option.some.inj H
       go_wp2
       go_ret
       exact ⟨by first | rfl | (simp; done) | (simp [*]; done), drs_⟩
      ·rw [if_neg c8] at H
       have c8b0 : decide (a0 ≤ 70) = false := decide_eq_false c8
       clear c8
       obtain rfl := Option.some.inj H
       go_wp2
       go_ret
       exact ⟨by first | rfl | (simp; done) | (simp [*]; done), drs_⟩
     ·rw [if_neg c7] at H
      have c7b0 : decide (65 ≤ a0) = false := decide_eq_false c7
      clear c7
      obtain rfl := Option.some.inj H
      go_wp2
      go_ret
      exact ⟨by first | rfl | (simp; done) | (simp [*]; done), drs_⟩

/-! ### utf8_appendRuneNonASCII: function 50 -/
def utf8_appendRuneNonASCII.j0 : Nat → List Int → Int → Int → Bool → Option (List Int)
 | 0, _, _, _, _ => none
 | k + 1, x0, x1, x5, x25 => if x25 = true then ((some (([Go.bits .or .u8 224 ((x1 / 4096) % 256), (128 + (x1 / 64) % 64), (128 + (x1) % 64)] : List Int) : List Int)).bind fun y117 => (if x0.length + y117.length < 140737488355328 then (some (x0 ++ y117)) else (none))) else (if x5 > 65535 then (if x5 ≤ 1114111 then ((some (([Go.bits .or .u8 240 ((x1 / 262144) % 256), (128 + (x1 / 4096) % 64), (128 + (x1 / 64) % 64), (128 + (x1) % 64)] : List Int) : List Int)).bind fun y123 => (if x0.length + y123.length < 140737488355328 then (some (x0 ++ y123)) else (none))) else ((some (([239, 191, 189] : List Int) : List Int)).bind fun y129 => (if x0.length + y129.length < 140737488355328 then (some (x0 ++ y129)) else (none)))) else ((some (([239, 191, 189] : List Int) : List Int)).bind fun y135 => (if x0.length + y135.length < 140737488355328 then (some (x0 ++ y135)) else (none))))
def utf8_appendRuneNonASCII.f (k : Nat) (l0 : List Int) (a1 : Int) : Option (List Int) := if ((a1) % 4294967296) ≤ 2047 then ((some (([Go.bits .or .u8 192 ((a1 / 64) % 256), (128 + (a1) % 64)] : List Int) : List Int)).bind fun y111 => (if l0.length + y111.length < 140737488355328 then (some (l0 ++ y111)) else (none))) else (if ((a1) % 4294967296) < 55296 then (utf8_appendRuneNonASCII.j0 k l0 a1 ((a1) % 4294967296) (decide (((a1) % 4294967296) < 55296))) else (if 57343 < ((a1) % 4294967296) then (utf8_appendRuneNonASCII.j0 k l0 a1 ((a1) % 4294967296) (decide (((a1) % 4294967296) ≤ 65535))) else (utf8_appendRuneNonASCII.j0 k l0 a1 ((a1) % 4294967296) false)))
theorem utf8_appendRuneNonASCII.mono_l : ∀ k, (∀ y0 y1 y2 y3, LeO (utf8_appendRuneNonASCII.j0 k y0 y1 y2 y3) (utf8_appendRuneNonASCII.j0 (k + 1) y0 y1 y2 y3))
 | 0 => fun _ _ _ _ r h => by simp [utf8_appendRuneNonASCII.j0] at h
 | k + 1 => by
  have ih0 := utf8_appendRuneNonASCII.mono_l k
  ·intro y0 y1 y2 y3
   unfold utf8_appendRuneNonASCII.j0
   repeat' first
   | (with_reducible exact ih0 _ _ _ _)
   | (with_reducible exact LeO.refl _)
   | (with_reducible exact LeO.none _)
   | (with_reducible refine LeO.ite ?_ ?_)
   | (with_reducible refine LeO.bind ?_ (fun _ => ?_))
theorem utf8_appendRuneNonASCII.mono : ∀ a0 a1 k, LeO (utf8_appendRuneNonASCII.f k a0 a1) (utf8_appendRuneNonASCII.f (k + 1) a0 a1) := by
 intro a0 a1 k
 have ih0 := utf8_appendRuneNonASCII.mono_l k
 unfold utf8_appendRuneNonASCII.f
 repeat' first
   | (with_reducible exact ih0 _ _ _ _)
   | (with_reducible exact LeO.refl _)
   | (with_reducible exact LeO.none _)
   | (with_reducible refine LeO.ite ?_ ?_)
   | (with_reducible refine LeO.bind ?_ (fun _ => ?_))
set_option maxHeartbeats 8000000 in
set_option maxRecDepth 100000 in
theorem utf8_appendRuneNonASCII.calls (k : Nat) (P0_ : Nat → Prop) (u9000_ : Value) (l0 : List Int) (a1 : Int) (r : List Int) (w0 w : World) (hB : Below w0.heap.size w0 w) (ho0 : Kd.R (Kd.int .u8) 5 w w0.heap.size P0_ u9000_ l0) (h : utf8_appendRuneNonASCII.f k l0 a1 = some r) :
  Calls Try.prog 50 #[u9000_, .int .i32 a1] w fun e w' => ∃ v0_ : Value, e = .returned (v0_) ∧ Kd.R (Kd.int .u8) 5 w' w0.heap.size (fun k_ => (P0_ k_ ∨ w.heap.size ≤ k_)) v0_ r ∧ Below w0.heap.size w0 w' ∧ Kept w w' (fun k_ => P0_ k_) := by
 have HO0 := Aside0.mk (show Kd.R (Kd.int .u8) 5 w w0.heap.size (fun k_ => (P0_ k_ ∨ w.heap.size ≤ k_)) u9000_ l0 from Kd.R_mono ho0 (fun k_ hk => (.inl hk)))
 have HK := Aside0.mk (Kept.refl w (fun k_ => P0_ k_))
 have HW0 := Aside0.mk hB.size
 have HB := Aside0.mk hB
 clear hB
 have H : (if ((a1) % 4294967296) ≤ 2047 then ((some (([Go.bits .or .u8 192 ((a1 / 64) % 256), (128 + (a1) % 64)] : List Int) : List Int)).bind fun y111 => (if l0.length + y111.length < 140737488355328 then (some (l0 ++ y111)) else (none))) else (if ((a1) % 4294967296) < 55296 then (utf8_appendRuneNonASCII.j0 k l0 a1 ((a1) % 4294967296) (decide (((a1) % 4294967296) < 55296))) else (if 57343 < ((a1) % 4294967296) then (utf8_appendRuneNonASCII.j0 k l0 a1 ((a1) % 4294967296) (decide (((a1) % 4294967296) ≤ 65535))) else (utf8_appendRuneNonASCII.j0 k l0 a1 ((a1) % 4294967296) false)))) = some r := h
 clear h
 by_cases c3 : ((a1) % 4294967296) ≤ 2047
 ·rw [if_pos c3] at H
  have c3b0 : decide (((a1) % 4294967296) ≤ 2047) = true := decide_eq_true c3
  clear c3
  obtain ⟨y111, hy111⟩ : ∃ y_ : List Int, y_ = (([Go.bits .or .u8 192 ((a1 / 64) % 256), (128 + (a1) % 64)] : List Int)) := ⟨_, rfl⟩
  replace H : (if l0.length + y111.length < 140737488355328 then (some (l0 ++ y111)) else (none)) = some r := by first | (rw [hy111]; with_reducible exact H) | (have H2_ := (Option.bind_some _ _).symm.trans H; rw [hy111]; with_reducible exact H2_) | (have H2_ := (Option.bind_some _ _).symm.trans H; with_reducible exact H2_) | with_reducible exact H | (rw [hy111]; exact H) | exact H
  have Ny111 := Aside0.mk hy111
  clear hy111
  by_cases c4 : l0.length + y111.length < 140737488355328
  ·rw [if_pos c4] at H
   have LMc4 := Aside0.mk c4
   clear c4
   obtain ⟨y114, hy114⟩ : ∃ y_ : List Int, y_ = (l0 ++ y111) := ⟨_, rfl⟩
   replace H : (some y114) = some r := by first | (rw [hy114]; with_reducible exact H) | (have H2_ := (Option.bind_some _ _).symm.trans H; rw [hy114]; with_reducible exact H2_) | (have H2_ := (Option.bind_some _ _).symm.trans H; with_reducible exact H2_) | with_reducible exact H | (rw [hy114]; exact H) | exact H
   have Ny114 := Aside0.mk hy114
   clear hy114
   obtain rfl := Option.some.inj H
   go_enter Try.func50, Try.ntmps50
   go_wp2_with (first | ((with_reducible refine gate_dst (N := 23) rfl ?_); refine Kd.R_lit (Kd.int .u8) _ 5 ?hg (N := 23) ?hd (xs := ([Go.bits .or .u8 192 ((a1 / 64) % 256), (128 + (a1) % 64)] : List Int)) (inner := [.int .u8 (Go.bits .or .u8 192 ((a1 / 64) % 256)), .int .u8 ((128 + (a1) % 64))]) (ok := fun _ => True) (okp := fun _ => True) ?hr ?hp (fun _ hk => hk) trivial (Below.refl _ _) (Nat.le_refl _) (by simp) ?_; (case hd => rfl); (case hg => rfl); (case hr => first | (go_simp; done) | (go_simp; rfl)); (case hp => exact (Reps.one (show Kd.M (Kd.int .u8) _ _ _ (Go.bits .or .u8 192 ((a1 / 64) % 256)) [.int .u8 (Go.bits .or .u8 192 ((a1 / 64) % 256))] from rfl) (Reps.one (show Kd.M (Kd.int .u8) _ _ _ ((128 + (a1) % 64)) [.int .u8 ((128 + (a1) % 64))] from rfl) (Reps.none _ _)))); intro v112 w5 ho6 hb hg_ hnew_; clear hg_ hnew_; (first | rw [← Ny111.out] at ho6 | (simp only [Int.reduceToNat] at ho6; rw [← Ny111.out] at ho6)); have n0_ := Aside0.mk (Kd.R_elder' (by (with_reducible repeat (first | apply Kd.R_alloc | apply Kd.R_drewN | apply Kd.R_drew)); exact HO0.out) (Kd.R_base ho6) hb); have n1_ := Aside0.mk (Kd.R_lower (Kd.R_new' (Kd.R_newM (M := fun k_ => (P0_ k_ ∨ w.heap.size ≤ k_)) ho6 (by first | exact HK.out.1 | exact (show Kept w _ (fun k_ => P0_ k_) from by repeat (first | (with_reducible first | exact HK.out | apply Kept.alloc | apply Kept.drewN | apply Kept.drew) | exact HK.out)).1) (fun k_ h_ => .inr h_)) (Kd.R_lt (by (with_reducible repeat (first | apply Kd.R_alloc | apply Kd.R_drewN | apply Kd.R_drew)); exact HO0.out))) (below_size bel_)); have n2_ := Aside0.mk (Kept.below (S := (fun k_ => P0_ k_)) (by repeat (first | (with_reducible first | exact HK.out | apply Kept.alloc | apply Kept.drewN | apply Kept.drew) | exact HK.out)) hb); have n3_ := Aside0.mk (below_step bel_ hb); clear HO0; clear HK; clear HB; have HO0 := n0_; have HO113 := n1_; have HK := n2_; have HB := n3_; clear n0_ n1_ n2_ n3_; clear hb ho6; obtain ⟨Ao8, co8, eo8⟩ := Kd.R_slice HO113.out; subst eo8) | ((with_reducible refine gate_builtin (b := .append) (xs := #[.tmp 14, .tmp 23]) rfl ?_); at_builtin; refine Kd.R_append_rows (Kd.int .u8) (w0 := w0) w0.heap.size rfl (.tmp 14) (.tmp 23) 22 5 (.int .u8 0) 1 rfl Try.underlying22 info5 rfl (by decide) (by omega) u9000_ l0 y111 _ _ _ (fun k_ => (P0_ k_ ∨ w.heap.size ≤ k_) ∧ some k_ ≠ (.slice Ao8 y111.length co8 : Value).ownBlock) (fun _ => False) rfl rfl ?aO ?aR (fun _ _ h => h) (fun _ h => h.elim) ?aF ?aB ?aS ?aL ?_; (case aR => repeat (first | exact (Kd.R_reads' HO113.out).2.2 | (with_reducible refine Kd.C_alloc ?_ _) | (with_reducible refine Kd.C_drewN ?_ _) | (with_reducible refine Kd.C_drew ?_))); (case aB => exact bel_); (case aF => exact (fun k_ hk => ⟨(.inr (Nat.le_trans (by first | exact HK.out.1 | exact (show Kept w _ (fun k_ => P0_ k_) from by repeat (first | (with_reducible first | exact HK.out | apply Kept.alloc | apply Kept.drewN | apply Kept.drew) | exact HK.out)).1) hk)), Kd.fresh' (Kd.R_lt (by (with_reducible repeat (first | apply Kd.R_alloc | apply Kd.R_drewN | apply Kd.R_drew)); exact HO113.out)) k_ hk⟩)); (case aO => exact (by (with_reducible repeat (first | apply Kd.R_alloc | apply Kd.R_drewN | apply Kd.R_drew)); exact HO0.out)); (case aS => exact (below_size bel_)); (case aL => have := LMc4.out; omega); intro v115 w7 ho hb hg hat; rw [← Ny114.out] at ho; have n0_ := Aside0.mk (Kd.R_after (ok := (fun k_ => (P0_ k_ ∨ w.heap.size ≤ k_))) (by (with_reducible repeat (first | apply Kd.R_alloc | apply Kd.R_drewN | apply Kd.R_drew)); exact Kd.R_mono HO113.out (fun _ hk => ⟨hk.1.1, hk.2⟩)) hg hat); have n1_ := Aside0.mk (hb); have n2_ := Aside0.mk (Kept.of_grown (S := (fun k_ => P0_ k_)) hg (by repeat (first | (with_reducible first | exact HK.out | apply Kept.alloc | apply Kept.drewN | apply Kept.drew) | exact HK.out)) (fun k_ e_ => (HO0.out.1 k_ e_).1)); have n3_ := Aside0.mk (ho); clear HO113; clear HB; clear HK; clear HO0; have HO113 := n0_; have HB := n1_; have HK := n2_; have HO116 := n3_; clear n0_ n1_ n2_ n3_; clear ho hb hg hat))
   go_ret
   exact ⟨_, rsl_, by (with_reducible repeat (first | apply Kd.R_alloc | apply Kd.R_drewN | apply Kd.R_drew)); exact Kd.R_mono HO116.out (fun _ hk => hk.1), by repeat (first | (with_reducible first | exact HB.out | apply below_alloc | apply pw_below_drewN | apply below_drew1) | exact HB.out), by repeat (first | (with_reducible first | exact HK.out | apply Kept.alloc | apply Kept.drewN | apply Kept.drew) | exact HK.out)⟩
  ·rw [if_neg c4] at H
   exact absurd H (by simp)
 ·rw [if_neg c3] at H
  have c3b0 : decide (((a1) % 4294967296) ≤ 2047) = false := decide_eq_false c3
  clear c3
  have HC9 := Aside0.mk H
  clear H
  go_enter Try.func50, Try.ntmps50
  go_upto_if 25 with (fail)
  go_cut [25] (fun v25 wc => ∃ (kq : Nat) (x25_8 : Bool), v25 = .bool x25_8 ∧ Aside0 (utf8_appendRuneNonASCII.j0 kq l0 a1 ((a1) % 4294967296) x25_8 = some r) ∧ Aside0 (kq ≤ k) ∧ Aside0 (Kd.R (Kd.int .u8) 5 wc w0.heap.size (fun k_ => (P0_ k_ ∨ w.heap.size ≤ k_)) u9000_ l0) ∧ Aside0 (Kept w wc (fun k_ => P0_ k_)) ∧ Aside0 (Below w0.heap.size w0 wc))
  case first =>
   have H := HC9.out
   clear HC9
   by_cases c10 : ((a1) % 4294967296) < 55296
   ·rw [if_pos c10] at H
    have c10b0 : decide (((a1) % 4294967296) < 55296) = true := decide_eq_true c10
    clear c10
    (first | rw [c10b0] | (simp only [i64_w, i32_w]; rw [c10b0]) | skip)
    have H' := Aside0.mk H
    clear H
    go_wp2
    go_meet
    case rel => exact ⟨_, (decide (((a1) % 4294967296) < 55296)), rfs_, (by first | exact H' | (subst_vars; exact H')), ⟨ole_⟩, ⟨by (with_reducible repeat (first | apply Kd.R_alloc | apply Kd.R_drewN | apply Kd.R_drew)); exact HO0.out⟩, ⟨by repeat (first | (with_reducible first | exact HK.out | apply Kept.alloc | apply Kept.drewN | apply Kept.drew) | exact HK.out)⟩, ⟨bel_⟩⟩
   ·rw [if_neg c10] at H
    have c10b0 : decide (((a1) % 4294967296) < 55296) = false := decide_eq_false c10
    clear c10
    (first | rw [c10b0] | (simp only [i64_w, i32_w]; rw [c10b0]) | skip)
    by_cases c11 : 57343 < ((a1) % 4294967296)
    ·rw [if_pos c11] at H
     have c11b0 : decide (57343 < ((a1) % 4294967296)) = true := decide_eq_true c11
     clear c11
     have H' := Aside0.mk H
     clear H
     go_wp2
     go_meet
     case rel => exact ⟨_, (decide (((a1) % 4294967296) ≤ 65535)), rfs_, (by first | exact H' | (subst_vars; exact H')), ⟨ole_⟩, ⟨by (with_reducible repeat (first | apply Kd.R_alloc | apply Kd.R_drewN | apply Kd.R_drew)); exact HO0.out⟩, ⟨by repeat (first | (with_reducible first | exact HK.out | apply Kept.alloc | apply Kept.drewN | apply Kept.drew) | exact HK.out)⟩, ⟨bel_⟩⟩
    ·rw [if_neg c11] at H
     have c11b0 : decide (57343 < ((a1) % 4294967296)) = false := decide_eq_false c11
     clear c11
     have H' := Aside0.mk H
     clear H
     go_wp2
     go_meet
     case rel => exact ⟨_, (false), rfs_, (by first | exact H' | (subst_vars; exact H')), ⟨ole_⟩, ⟨by (with_reducible repeat (first | apply Kd.R_alloc | apply Kd.R_drewN | apply Kd.R_drew)); exact HO0.out⟩, ⟨by repeat (first | (with_reducible first | exact HK.out | apply Kept.alloc | apply Kept.drewN | apply Kept.drew) | exact HK.out)⟩, ⟨bel_⟩⟩
  case rest =>
   clear HC9
   try clear c1
   try clear p2
   try clear c3
   try clear c3b0
   try clear c4
   try clear c5
   try clear c10
   try clear c10b0
   try clear c11
   try clear c11b0
   obtain ⟨kq, x25_8, rfl, HA, HJ8, HO_0, HK, HB⟩ := hcut
   cases kq with
   | zero => exact absurd HA.out (by simp [utf8_appendRuneNonASCII.j0])
   | succ kj8 =>
    have H := HA.out
    clear HA
    simp only [utf8_appendRuneNonASCII.j0] at H
    by_cases c12 : x25_8 = true
    ·subst c12
     rw [if_pos rfl] at H
     obtain ⟨y117, hy117⟩ : ∃ y_ : List Int, y_ = (([Go.bits .or .u8 224 ((a1 / 4096) % 256), (128 + (a1 / 64) % 64), (128 + (a1) % 64)] : List Int)) := ⟨_, rfl⟩
     replace H : (if l0.length + y117.length < 140737488355328 then (some (l0 ++ y117)) else (none)) = some r := by first | (rw [hy117]; with_reducible exact H) | (have H2_ := (Option.bind_some _ _).symm.trans H; rw [hy117]; with_reducible exact H2_) | (have H2_ := (Option.bind_some _ _).symm.trans H; with_reducible exact H2_) | with_reducible exact H | (rw [hy117]; exact H) | exact H
     have Ny117 := Aside0.mk hy117
     clear hy117
     by_cases c13 : l0.length + y117.length < 140737488355328
     ·rw [if_pos c13] at H
      have LMc13 := Aside0.mk c13
      clear c13
      obtain ⟨y120, hy120⟩ : ∃ y_ : List Int, y_ = (l0 ++ y117) := ⟨_, rfl⟩
      replace H : (some y120) = some r := by first | (rw [hy120]; with_reducible exact H) | (have H2_ := (Option.bind_some _ _).symm.trans H; rw [hy120]; with_reducible exact H2_) | (have H2_ := (Option.bind_some _ _).symm.trans H; with_reducible exact H2_) | with_reducible exact H | (rw [hy120]; exact H) | exact H
      have Ny120 := Aside0.mk hy120
      clear hy120
      obtain rfl := Option.some.inj H
      go_wp2_with (first | ((with_reducible refine gate_dst (N := 48) rfl ?_); refine Kd.R_lit (Kd.int .u8) _ 5 ?hg (N := 48) ?hd (xs := ([Go.bits .or .u8 224 ((a1 / 4096) % 256), (128 + (a1 / 64) % 64), (128 + (a1) % 64)] : List Int)) (inner := [.int .u8 (Go.bits .or .u8 224 ((a1 / 4096) % 256)), .int .u8 ((128 + (a1 / 64) % 64)), .int .u8 ((128 + (a1) % 64))]) (ok := fun _ => True) (okp := fun _ => True) ?hr ?hp (fun _ hk => hk) trivial (Below.refl _ _) (Nat.le_refl _) (by simp) ?_; (case hd => rfl); (case hg => rfl); (case hr => first | (go_simp; done) | (go_simp; rfl)); (case hp => exact (Reps.one (show Kd.M (Kd.int .u8) _ _ _ (Go.bits .or .u8 224 ((a1 / 4096) % 256)) [.int .u8 (Go.bits .or .u8 224 ((a1 / 4096) % 256))] from rfl) (Reps.one (show Kd.M (Kd.int .u8) _ _ _ ((128 + (a1 / 64) % 64)) [.int .u8 ((128 + (a1 / 64) % 64))] from rfl) (Reps.one (show Kd.M (Kd.int .u8) _ _ _ ((128 + (a1) % 64)) [.int .u8 ((128 + (a1) % 64))] from rfl) (Reps.none _ _))))); intro v118 w14 ho15 hb hg_ hnew_; clear hg_ hnew_; (first | rw [← Ny117.out] at ho15 | (simp only [Int.reduceToNat] at ho15; rw [← Ny117.out] at ho15)); have n0_ := Aside0.mk (Kd.R_elder' (by (with_reducible repeat (first | apply Kd.R_alloc | apply Kd.R_drewN | apply Kd.R_drew)); exact HO_0.out) (Kd.R_base ho15) hb); have n1_ := Aside0.mk (Kd.R_lower (Kd.R_new' (Kd.R_newM (M := fun k_ => (P0_ k_ ∨ w.heap.size ≤ k_)) ho15 (by first | exact HK.out.1 | exact (show Kept w _ (fun k_ => P0_ k_) from by repeat (first | (with_reducible first | exact HK.out | apply Kept.alloc | apply Kept.drewN | apply Kept.drew) | exact HK.out)).1) (fun k_ h_ => .inr h_)) (Kd.R_lt (by (with_reducible repeat (first | apply Kd.R_alloc | apply Kd.R_drewN | apply Kd.R_drew)); exact HO_0.out))) (below_size bel_)); have n2_ := Aside0.mk (Kept.below (S := (fun k_ => P0_ k_)) (by repeat (first | (with_reducible first | exact HK.out | apply Kept.alloc | apply Kept.drewN | apply Kept.drew) | exact HK.out)) hb); have n3_ := Aside0.mk (below_step bel_ hb); clear HO_0; clear HK; clear HB; have HO_0 := n0_; have HO119 := n1_; have HK := n2_; have HB := n3_; clear n0_ n1_ n2_ n3_; clear hb ho15; obtain ⟨Ao17, co17, eo17⟩ := Kd.R_slice HO119.out; subst eo17) | ((with_reducible refine gate_builtin (b := .append) (xs := #[.tmp 34, .tmp 48]) rfl ?_); at_builtin; refine Kd.R_append_rows (Kd.int .u8) (w0 := w0) w0.heap.size rfl (.tmp 34) (.tmp 48) 22 5 (.int .u8 0) 1 rfl Try.underlying22 info5 rfl (by decide) (by omega) u9000_ l0 y117 _ _ _ (fun k_ => (P0_ k_ ∨ w.heap.size ≤ k_) ∧ some k_ ≠ (.slice Ao17 y117.length co17 : Value).ownBlock) (fun _ => False) rfl rfl ?aO ?aR (fun _ _ h => h) (fun _ h => h.elim) ?aF ?aB ?aS ?aL ?_; (case aR => repeat (first | exact (Kd.R_reads' HO119.out).2.2 | (with_reducible refine Kd.C_alloc ?_ _) | (with_reducible refine Kd.C_drewN ?_ _) | (with_reducible refine Kd.C_drew ?_))); (case aB => exact bel_); (case aF => exact (fun k_ hk => ⟨(.inr (Nat.le_trans (by first | exact HK.out.1 | exact (show Kept w _ (fun k_ => P0_ k_) from by repeat (first | (with_reducible first | exact HK.out | apply Kept.alloc | apply Kept.drewN | apply Kept.drew) | exact HK.out)).1) hk)), Kd.fresh' (Kd.R_lt (by (with_reducible repeat (first | apply Kd.R_alloc | apply Kd.R_drewN | apply Kd.R_drew)); exact HO119.out)) k_ hk⟩)); (case aO => exact (by (with_reducible repeat (first | apply Kd.R_alloc | apply Kd.R_drewN | apply Kd.R_drew)); exact HO_0.out)); (case aS => exact (below_size bel_)); (case aL => have := LMc13.out; omega); intro v121 w16 ho hb hg hat; rw [← Ny120.out] at ho; have n0_ := Aside0.mk (Kd.R_after (ok := (fun k_ => (P0_ k_ ∨ w.heap.size ≤ k_))) (by (with_reducible repeat (first | apply Kd.R_alloc | apply Kd.R_drewN | apply Kd.R_drew)); exact Kd.R_mono HO119.out (fun _ hk => ⟨hk.1.1, hk.2⟩)) hg hat); have n1_ := Aside0.mk (hb); have n2_ := Aside0.mk (Kept.of_grown (S := (fun k_ => P0_ k_)) hg (by repeat (first | (with_reducible first | exact HK.out | apply Kept.alloc | apply Kept.drewN | apply Kept.drew) | exact HK.out)) (fun k_ e_ => (HO_0.out.1 k_ e_).1)); have n3_ := Aside0.mk (ho); clear HO119; clear HB; clear HK; clear HO_0; have HO119 := n0_; have HB := n1_; have HK := n2_; have HO122 := n3_; clear n0_ n1_ n2_ n3_; clear ho hb hg hat))
      go_ret
      exact ⟨_, rsl_, by (with_reducible repeat (first | apply Kd.R_alloc | apply Kd.R_drewN | apply Kd.R_drew)); exact Kd.R_mono HO122.out (fun _ hk => hk.1), by repeat (first | (with_reducible first | exact HB.out | apply below_alloc | apply pw_below_drewN | apply below_drew1) | exact HB.out), by repeat (first | (with_reducible first | exact HK.out | apply Kept.alloc | apply Kept.drewN | apply Kept.drew) | exact HK.out)⟩
     ·rw [if_neg c13] at H
      exact absurd H (by simp)
    ·replace c12 := Bool.eq_false_iff.mpr c12
     subst c12
     rw [if_neg (show ¬ (false = true) by decide)] at H
     by_cases c18 : ((a1) % 4294967296) > 65535
     ·rw [if_pos c18] at H
      have c18b0 : decide (65535 < ((a1) % 4294967296)) = true := decide_eq_true c18
      clear c18
      by_cases c19 : ((a1) % 4294967296) ≤ 1114111
      ·rw [if_pos c19] at H
       have c19b0 : decide (((a1) % 4294967296) ≤ 1114111) = true := decide_eq_true c19
       clear c19
       obtain ⟨y123, hy123⟩ : ∃ y_ : List Int, y_ = (([Go.bits .or .u8 240 ((a1 / 262144) % 256), (128 + (a1 / 4096) % 64), (128 + (a1 / 64) % 64), (128 + (a1) % 64)] : List Int)) := ⟨_, rfl⟩
       replace H : (if l0.length + y123.length < 140737488355328 then (some (l0 ++ y123)) else (none)) = some r := by first | (rw [hy123]; with_reducible exact H) | (have H2_ := (Option.bind_some _ _).symm.trans H; rw [hy123]; with_reducible exact H2_) | (have H2_ := (Option.bind_some _ _).symm.trans H; with_reducible exact H2_) | with_reducible exact H | (rw [hy123]; exact H) | exact H
       have Ny123 := Aside0.mk hy123
       clear hy123
       by_cases c20 : l0.length + y123.length < 140737488355328
       ·rw [if_pos c20] at H
        have LMc20 := Aside0.mk c20
        clear c20
        obtain ⟨y126, hy126⟩ : ∃ y_ : List Int, y_ = (l0 ++ y123) := ⟨_, rfl⟩
        replace H : (some y126) = some r := by first | (rw [hy126]; with_reducible exact H) | (have H2_ := (Option.bind_some _ _).symm.trans H; rw [hy126]; with_reducible exact H2_) | (have H2_ := (Option.bind_some _ _).symm.trans H; with_reducible exact H2_) | with_reducible exact H | (rw [hy126]; exact H) | exact H
        have Ny126 := Aside0.mk hy126
        clear hy126
        obtain rfl := Option.some.inj H
        go_wp2_with (first | ((with_reducible refine gate_dst (N := 76) rfl ?_); refine Kd.R_lit (Kd.int .u8) _ 5 ?hg (N := 76) ?hd (xs := ([Go.bits .or .u8 240 ((a1 / 262144) % 256), (128 + (a1 / 4096) % 64), (128 + (a1 / 64) % 64), (128 + (a1) % 64)] : List Int)) (inner := [.int .u8 (Go.bits .or .u8 240 ((a1 / 262144) % 256)), .int .u8 ((128 + (a1 / 4096) % 64)), .int .u8 ((128 + (a1 / 64) % 64)), .int .u8 ((128 + (a1) % 64))]) (ok := fun _ => True) (okp := fun _ => True) ?hr ?hp (fun _ hk => hk) trivial (Below.refl _ _) (Nat.le_refl _) (by simp) ?_; (case hd => rfl); (case hg => rfl); (case hr => first | (go_simp; done) | (go_simp; rfl)); (case hp => exact (Reps.one (show Kd.M (Kd.int .u8) _ _ _ (Go.bits .or .u8 240 ((a1 / 262144) % 256)) [.int .u8 (Go.bits .or .u8 240 ((a1 / 262144) % 256))] from rfl) (Reps.one (show Kd.M (Kd.int .u8) _ _ _ ((128 + (a1 / 4096) % 64)) [.int .u8 ((128 + (a1 / 4096) % 64))] from rfl) (Reps.one (show Kd.M (Kd.int .u8) _ _ _ ((128 + (a1 / 64) % 64)) [.int .u8 ((128 + (a1 / 64) % 64))] from rfl) (Reps.one (show Kd.M (Kd.int .u8) _ _ _ ((128 + (a1) % 64)) [.int .u8 ((128 + (a1) % 64))] from rfl) (Reps.none _ _)))))); intro v124 w21 ho22 hb hg_ hnew_; clear hg_ hnew_; (first | rw [← Ny123.out] at ho22 | (simp only [Int.reduceToNat] at ho22; rw [← Ny123.out] at ho22)); have n0_ := Aside0.mk (Kd.R_elder' (by (with_reducible repeat (first | apply Kd.R_alloc | apply Kd.R_drewN | apply Kd.R_drew)); exact HO_0.out) (Kd.R_base ho22) hb); have n1_ := Aside0.mk (Kd.R_lower (Kd.R_new' (Kd.R_newM (M := fun k_ => (P0_ k_ ∨ w.heap.size ≤ k_)) ho22 (by first | exact HK.out.1 | exact (show Kept w _ (fun k_ => P0_ k_) from by repeat (first | (with_reducible first | exact HK.out | apply Kept.alloc | apply Kept.drewN | apply Kept.drew) | exact HK.out)).1) (fun k_ h_ => .inr h_)) (Kd.R_lt (by (with_reducible repeat (first | apply Kd.R_alloc | apply Kd.R_drewN | apply Kd.R_drew)); exact HO_0.out))) (below_size bel_)); have n2_ := Aside0.mk (Kept.below (S := (fun k_ => P0_ k_)) (by repeat (first | (with_reducible first | exact HK.out | apply Kept.alloc | apply Kept.drewN | apply Kept.drew) | exact HK.out)) hb); have n3_ := Aside0.mk (below_step bel_ hb); clear HO_0; clear HK; clear HB; have HO_0 := n0_; have HO125 := n1_; have HK := n2_; have HB := n3_; clear n0_ n1_ n2_ n3_; clear hb ho22; obtain ⟨Ao24, co24, eo24⟩ := Kd.R_slice HO125.out; subst eo24) | ((with_reducible refine gate_builtin (b := .append) (xs := #[.tmp 57, .tmp 76]) rfl ?_); at_builtin; refine Kd.R_append_rows (Kd.int .u8) (w0 := w0) w0.heap.size rfl (.tmp 57) (.tmp 76) 22 5 (.int .u8 0) 1 rfl Try.underlying22 info5 rfl (by decide) (by omega) u9000_ l0 y123 _ _ _ (fun k_ => (P0_ k_ ∨ w.heap.size ≤ k_) ∧ some k_ ≠ (.slice Ao24 y123.length co24 : Value).ownBlock) (fun _ => False) rfl rfl ?aO ?aR (fun _ _ h => h) (fun _ h => h.elim) ?aF ?aB ?aS ?aL ?_; (case aR => repeat (first | exact (Kd.R_reads' HO125.out).2.2 | (with_reducible refine Kd.C_alloc ?_ _) | (with_reducible refine Kd.C_drewN ?_ _) | (with_reducible refine Kd.C_drew ?_))); (case aB => exact bel_); (case aF => exact (fun k_ hk => ⟨(.inr (Nat.le_trans (by first | exact HK.out.1 | exact (show Kept w _ (fun k_ => P0_ k_) from by repeat (first | (with_reducible first | exact HK.out | apply Kept.alloc | apply Kept.drewN | apply Kept.drew) | exact HK.out)).1) hk)), Kd.fresh' (Kd.R_lt (by (with_reducible repeat (first | apply Kd.R_alloc | apply Kd.R_drewN | apply Kd.R_drew)); exact HO125.out)) k_ hk⟩)); (case aO => exact (by (with_reducible repeat (first | apply Kd.R_alloc | apply Kd.R_drewN | apply Kd.R_drew)); exact HO_0.out)); (case aS => exact (below_size bel_)); (case aL => have := LMc20.out; omega); intro v127 w23 ho hb hg hat; rw [← Ny126.out] at ho; have n0_ := Aside0.mk (Kd.R_after (ok := (fun k_ => (P0_ k_ ∨ w.heap.size ≤ k_))) (by (with_reducible repeat (first | apply Kd.R_alloc | apply Kd.R_drewN | apply Kd.R_drew)); exact Kd.R_mono HO125.out (fun _ hk => ⟨hk.1.1, hk.2⟩)) hg hat); have n1_ := Aside0.mk (hb); have n2_ := Aside0.mk (Kept.of_grown (S := (fun k_ => P0_ k_)) hg (by repeat (first | (with_reducible first | exact HK.out | apply Kept.alloc | apply Kept.drewN | apply Kept.drew) | exact HK.out)) (fun k_ e_ => (HO_0.out.1 k_ e_).1)); have n3_ := Aside0.mk (ho); clear HO125; clear HB; clear HK; clear HO_0; have HO125 := n0_; have HB := n1_; have HK := n2_; have HO128 := n3_; clear n0_ n1_ n2_ n3_; clear ho hb hg hat))
        go_ret
        exact ⟨_, rsl_, by (with_reducible repeat (first | apply Kd.R_alloc | apply Kd.R_drewN | apply Kd.R_drew)); exact Kd.R_mono HO128.out (fun _ hk => hk.1), by repeat (first | (with_reducible first | exact HB.out | apply below_alloc | apply pw_below_drewN | apply below_drew1) | exact HB.out), by repeat (first | (with_reducible first | exact HK.out | apply Kept.alloc | apply Kept.drewN | apply Kept.drew) | exact HK.out)⟩
       ·rw [if_neg c20] at H
        exact absurd H (by simp)
      ·rw [if_neg c19] at H
       have c19b0 : decide (((a1) % 4294967296) ≤ 1114111) = false := decide_eq_false c19
       clear c19
       obtain ⟨y129, hy129⟩ : ∃ y_ : List Int, y_ = (([239, 191, 189] : List Int)) := ⟨_, rfl⟩
       replace H : (if l0.length + y129.length < 140737488355328 then (some (l0 ++ y129)) else (none)) = some r := by first | (rw [hy129]; with_reducible exact H) | (have H2_ := (Option.bind_some _ _).symm.trans H; rw [hy129]; with_reducible exact H2_) | (have H2_ := (Option.bind_some _ _).symm.trans H; with_reducible exact H2_) | with_reducible exact H | (rw [hy129]; exact H) | exact H
       have Ny129 := Aside0.mk hy129
       clear hy129
       by_cases c25 : l0.length + y129.length < 140737488355328
       ·rw [if_pos c25] at H
        have LMc25 := Aside0.mk c25
        clear c25
        obtain ⟨y132, hy132⟩ : ∃ y_ : List Int, y_ = (l0 ++ y129) := ⟨_, rfl⟩
        replace H : (some y132) = some r := by first | (rw [hy132]; with_reducible exact H) | (have H2_ := (Option.bind_some _ _).symm.trans H; rw [hy132]; with_reducible exact H2_) | (have H2_ := (Option.bind_some _ _).symm.trans H; with_reducible exact H2_) | with_reducible exact H | (rw [hy132]; exact H) | exact H
        have Ny132 := Aside0.mk hy132
        clear hy132
        obtain rfl := Option.some.inj H
        go_wp2_with (first | ((with_reducible refine gate_dst (N := 9) rfl ?_); refine Kd.R_lit (Kd.int .u8) _ 5 ?hg (N := 9) ?hd (xs := ([239, 191, 189] : List Int)) (inner := [.int .u8 239, .int .u8 191, .int .u8 189]) (ok := fun _ => True) (okp := fun _ => True) ?hr ?hp (fun _ hk => hk) trivial (Below.refl _ _) (Nat.le_refl _) (by simp) ?_; (case hd => rfl); (case hg => rfl); (case hr => first | (go_simp; done) | (go_simp; rfl)); (case hp => exact (Reps.one (show Kd.M (Kd.int .u8) _ _ _ 239 [.int .u8 239] from rfl) (Reps.one (show Kd.M (Kd.int .u8) _ _ _ 191 [.int .u8 191] from rfl) (Reps.one (show Kd.M (Kd.int .u8) _ _ _ 189 [.int .u8 189] from rfl) (Reps.none _ _))))); intro v130 w26 ho27 hb hg_ hnew_; clear hg_ hnew_; (first | rw [← Ny129.out] at ho27 | (simp only [Int.reduceToNat] at ho27; rw [← Ny129.out] at ho27)); have n0_ := Aside0.mk (Kd.R_elder' (by (with_reducible repeat (first | apply Kd.R_alloc | apply Kd.R_drewN | apply Kd.R_drew)); exact HO_0.out) (Kd.R_base ho27) hb); have n1_ := Aside0.mk (Kd.R_lower (Kd.R_new' (Kd.R_newM (M := fun k_ => (P0_ k_ ∨ w.heap.size ≤ k_)) ho27 (by first | exact HK.out.1 | exact (show Kept w _ (fun k_ => P0_ k_) from by repeat (first | (with_reducible first | exact HK.out | apply Kept.alloc | apply Kept.drewN | apply Kept.drew) | exact HK.out)).1) (fun k_ h_ => .inr h_)) (Kd.R_lt (by (with_reducible repeat (first | apply Kd.R_alloc | apply Kd.R_drewN | apply Kd.R_drew)); exact HO_0.out))) (below_size bel_)); have n2_ := Aside0.mk (Kept.below (S := (fun k_ => P0_ k_)) (by repeat (first | (with_reducible first | exact HK.out | apply Kept.alloc | apply Kept.drewN | apply Kept.drew) | exact HK.out)) hb); have n3_ := Aside0.mk (below_step bel_ hb); clear HO_0; clear HK; clear HB; have HO_0 := n0_; have HO131 := n1_; have HK := n2_; have HB := n3_; clear n0_ n1_ n2_ n3_; clear hb ho27; obtain ⟨Ao29, co29, eo29⟩ := Kd.R_slice HO131.out; subst eo29) | ((with_reducible refine gate_builtin (b := .append) (xs := #[.tmp 8, .tmp 9]) rfl ?_); at_builtin; refine Kd.R_append_rows (Kd.int .u8) (w0 := w0) w0.heap.size rfl (.tmp 8) (.tmp 9) 22 5 (.int .u8 0) 1 rfl Try.underlying22 info5 rfl (by decide) (by omega) u9000_ l0 y129 _ _ _ (fun k_ => (P0_ k_ ∨ w.heap.size ≤ k_) ∧ some k_ ≠ (.slice Ao29 y129.length co29 : Value).ownBlock) (fun _ => False) rfl rfl ?aO ?aR (fun _ _ h => h) (fun _ h => h.elim) ?aF ?aB ?aS ?aL ?_; (case aR => repeat (first | exact (Kd.R_reads' HO131.out).2.2 | (with_reducible refine Kd.C_alloc ?_ _) | (with_reducible refine Kd.C_drewN ?_ _) | (with_reducible refine Kd.C_drew ?_))); (case aB => exact bel_); (case aF => exact (fun k_ hk => ⟨(.inr (Nat.le_trans (by first | exact HK.out.1 | exact (show Kept w _ (fun k_ => P0_ k_) from by repeat (first | (with_reducible first | exact HK.out | apply Kept.alloc | apply Kept.drewN | apply Kept.drew) | exact HK.out)).1) hk)), Kd.fresh' (Kd.R_lt (by (with_reducible repeat (first | apply Kd.R_alloc | apply Kd.R_drewN | apply Kd.R_drew)); exact HO131.out)) k_ hk⟩)); (case aO => exact (by (with_reducible repeat (first | apply Kd.R_alloc | apply Kd.R_drewN | apply Kd.R_drew)); exact HO_0.out)); (case aS => exact (below_size bel_)); (case aL => have := LMc25.out; omega); intro v133 w28 ho hb hg hat; rw [← Ny132.out] at ho; have n0_ := Aside0.mk (Kd.R_after (ok := (fun k_ => (P0_ k_ ∨ w.heap.size ≤ k_))) (by (with_reducible repeat (first | apply Kd.R_alloc | apply Kd.R_drewN | apply Kd.R_drew)); exact Kd.R_mono HO131.out (fun _ hk => ⟨hk.1.1, hk.2⟩)) hg hat); have n1_ := Aside0.mk (hb); have n2_ := Aside0.mk (Kept.of_grown (S := (fun k_ => P0_ k_)) hg (by repeat (first | (with_reducible first | exact HK.out | apply Kept.alloc | apply Kept.drewN | apply Kept.drew) | exact HK.out)) (fun k_ e_ => (HO_0.out.1 k_ e_).1)); have n3_ := Aside0.mk (ho); clear HO131; clear HB; clear HK; clear HO_0; have HO131 := n0_; have HB := n1_; have HK := n2_; have HO134 := n3_; clear n0_ n1_ n2_ n3_; clear ho hb hg hat))
        go_ret
        exact ⟨_, rsl_, by (with_reducible repeat (first | apply Kd.R_alloc | apply Kd.R_drewN | apply Kd.R_drew)); exact Kd.R_mono HO134.out (fun _ hk => hk.1), by repeat (first | (with_reducible first | exact HB.out | apply below_alloc | apply pw_below_drewN | apply below_drew1) | exact HB.out), by repeat (first | (with_reducible first | exact HK.out | apply Kept.alloc | apply Kept.drewN | apply Kept.drew) | exact HK.out)⟩
       ·rw [if_neg c25] at H
        exact absurd H (by simp)
     ·rw [if_neg c18] at H
      have c18b0 : decide (65535 < ((a1) % 4294967296)) = false := decide_eq_false c18
      clear c18
      obtain ⟨y135, hy135⟩ : ∃ y_ : List Int, y_ = (([239, 191, 189] : List Int)) := ⟨_, rfl⟩
      replace H : (if l0.length + y135.length < 140737488355328 then (some (l0 ++ y135)) else (none)) = some r := by first | (rw [hy135]; with_reducible exact H) | (have H2_ := (Option.bind_some _ _).symm.trans H; rw [hy135]; with_reducible exact H2_) | (have H2_ := (Option.bind_some _ _).symm.trans H; with_reducible exact H2_) | with_reducible exact H | (rw [hy135]; exact H) | exact H
      have Ny135 := Aside0.mk hy135
      clear hy135
      by_cases c30 : l0.length + y135.length < 140737488355328
      ·rw [if_pos c30] at H
       have LMc30 := Aside0.mk c30
       clear c30
       obtain ⟨y138, hy138⟩ : ∃ y_ : List Int, y_ = (l0 ++ y135) := ⟨_, rfl⟩
       replace H : (some y138) = some r := by first | (rw [hy138]; with_reducible exact H) | (have H2_ := (Option.bind_some _ _).symm.trans H; rw [hy138]; with_reducible exact H2_) | (have H2_ := (Option.bind_some _ _).symm.trans H; with_reducible exact H2_) | with_reducible exact H | (rw [hy138]; exact H) | exact H
       have Ny138 := Aside0.mk hy138
       clear hy138
       obtain rfl := Option.some.inj H
       go_wp2_with (first | ((with_reducible refine gate_dst (N := 9) rfl ?_); refine Kd.R_lit (Kd.int .u8) _ 5 ?hg (N := 9) ?hd (xs := ([239, 191, 189] : List Int)) (inner := [.int .u8 239, .int .u8 191, .int .u8 189]) (ok := fun _ => True) (okp := fun _ => True) ?hr ?hp (fun _ hk => hk) trivial (Below.refl _ _) (Nat.le_refl _) (by simp) ?_; (case hd => rfl); (case hg => rfl); (case hr => first | (go_simp; done) | (go_simp; rfl)); (case hp => exact (Reps.one (show Kd.M (Kd.int .u8) _ _ _ 239 [.int .u8 239] from rfl) (Reps.one (show Kd.M (Kd.int .u8) _ _ _ 191 [.int .u8 191] from rfl) (Reps.one (show Kd.M (Kd.int .u8) _ _ _ 189 [.int .u8 189] from rfl) (Reps.none _ _))))); intro v136 w31 ho32 hb hg_ hnew_; clear hg_ hnew_; (first | rw [← Ny135.out] at ho32 | (simp only [Int.reduceToNat] at ho32; rw [← Ny135.out] at ho32)); have n0_ := Aside0.mk (Kd.R_elder' (by (with_reducible repeat (first | apply Kd.R_alloc | apply Kd.R_drewN | apply Kd.R_drew)); exact HO_0.out) (Kd.R_base ho32) hb); have n1_ := Aside0.mk (Kd.R_lower (Kd.R_new' (Kd.R_newM (M := fun k_ => (P0_ k_ ∨ w.heap.size ≤ k_)) ho32 (by first | exact HK.out.1 | exact (show Kept w _ (fun k_ => P0_ k_) from by repeat (first | (with_reducible first | exact HK.out | apply Kept.alloc | apply Kept.drewN | apply Kept.drew) | exact HK.out)).1) (fun k_ h_ => .inr h_)) (Kd.R_lt (by (with_reducible repeat (first | apply Kd.R_alloc | apply Kd.R_drewN | apply Kd.R_drew)); exact HO_0.out))) (below_size bel_)); have n2_ := Aside0.mk (Kept.below (S := (fun k_ => P0_ k_)) (by repeat (first | (with_reducible first | exact HK.out | apply Kept.alloc | apply Kept.drewN | apply Kept.drew) | exact HK.out)) hb); have n3_ := Aside0.mk (below_step bel_ hb); clear HO_0; clear HK; clear HB; have HO_0 := n0_; have HO137 := n1_; have HK := n2_; have HB := n3_; clear n0_ n1_ n2_ n3_; clear hb ho32; obtain ⟨Ao34, co34, eo34⟩ := Kd.R_slice HO137.out; subst eo34) | ((with_reducible refine gate_builtin (b := .append) (xs := #[.tmp 8, .tmp 9]) rfl ?_); at_builtin; refine Kd.R_append_rows (Kd.int .u8) (w0 := w0) w0.heap.size rfl (.tmp 8) (.tmp 9) 22 5 (.int .u8 0) 1 rfl Try.underlying22 info5 rfl (by decide) (by omega) u9000_ l0 y135 _ _ _ (fun k_ => (P0_ k_ ∨ w.heap.size ≤ k_) ∧ some k_ ≠ (.slice Ao34 y135.length co34 : Value).ownBlock) (fun _ => False) rfl rfl ?aO ?aR (fun _ _ h => h) (fun _ h => h.elim) ?aF ?aB ?aS ?aL ?_; (case aR => repeat (first | exact (Kd.R_reads' HO137.out).2.2 | (with_reducible refine Kd.C_alloc ?_ _) | (with_reducible refine Kd.C_drewN ?_ _) | (with_reducible refine Kd.C_drew ?_))); (case aB => exact bel_); (case aF => exact (fun k_ hk => ⟨(.inr (Nat.le_trans (by first | exact HK.out.1 | exact (show Kept w _ (fun k_ => P0_ k_) from by repeat (first | (with_reducible first | exact HK.out | apply Kept.alloc | apply Kept.drewN | apply Kept.drew) | exact HK.out)).1) hk)), Kd.fresh' (Kd.R_lt (by (with_reducible repeat (first | apply Kd.R_alloc | apply Kd.R_drewN | apply Kd.R_drew)); exact HO137.out)) k_ hk⟩)); (case aO => exact (by (with_reducible repeat (first | apply Kd.R_alloc | apply Kd.R_drewN | apply Kd.R_drew)); exact HO_0.out)); (case aS => exact (below_size bel_)); (case aL => have := LMc30.out; omega); intro v139 w33 ho hb hg hat; rw [← Ny138.out] at ho; have n0_ := Aside0.mk (Kd.R_after (ok := (fun k_ => (P0_ k_ ∨ w.heap.size ≤ k_))) (by (with_reducible repeat (first | apply Kd.R_alloc | apply Kd.R_drewN | apply Kd.R_drew)); exact Kd.R_mono HO137.out (fun _ hk => ⟨hk.1.1, hk.2⟩)) hg hat); have n1_ := Aside0.mk (hb); have n2_ := Aside0.mk (Kept.of_grown (S := (fun k_ => P0_ k_)) hg (by repeat (first | (with_reducible first | exact HK.out | apply Kept.alloc | apply Kept.drewN | apply Kept.drew) | exact HK.out)) (fun k_ e_ => (HO_0.out.1 k_ e_).1)); have n3_ := Aside0.mk (ho); clear HO137; clear HB; clear HK; clear HO_0; have HO137 := n0_; have HB := n1_; have HK := n2_; have HO140 := n3_; clear n0_ n1_ n2_ n3_; clear ho hb hg hat))
       go_ret
       exact ⟨_, rsl_, by (with_reducible repeat (first | apply Kd.R_alloc | apply Kd.R_drewN | apply Kd.R_drew)); exact Kd.R_mono HO140.out (fun _ hk => hk.1), by repeat (first | (with_reducible first | exact HB.out | apply below_alloc | apply pw_below_drewN | apply below_drew1) | exact HB.out), by repeat (first | (with_reducible first | exact HK.out | apply Kept.alloc | apply Kept.drewN | apply Kept.drew) | exact HK.out)⟩
      ·rw [if_neg c30] at H
       exact absurd H (by simp)

/-! ### utf8_AppendRune: function 49 -/
def utf8_AppendRune.f (k : Nat) (l0 : List Int) (a1 : Int) : Option (List Int) := if ((a1) % 4294967296) ≤ 127 then (if l0.length < 140737488355328 then (some (l0 ++ [(a1) % 256])) else (none)) else ((utf8_appendRuneNonASCII.f k l0 a1).bind fun t144 => (some t144))
theorem utf8_AppendRune.mono : ∀ a0 a1 k, LeO (utf8_AppendRune.f k a0 a1) (utf8_AppendRune.f (k + 1) a0 a1) := by
 intro a0 a1 k
 unfold utf8_AppendRune.f
 repeat' first
   | (with_reducible exact utf8_appendRuneNonASCII.mono _ _ _)
   | (with_reducible exact LeO.refl _)
   | (with_reducible exact LeO.none _)
   | (with_reducible refine LeO.ite ?_ ?_)
   | (with_reducible refine LeO.bind ?_ (fun _ => ?_))
set_option maxHeartbeats 8000000 in
set_option maxRecDepth 100000 in
theorem utf8_AppendRune.calls (k : Nat) (P0_ : Nat → Prop) (u9000_ : Value) (l0 : List Int) (a1 : Int) (r : List Int) (w0 w : World) (hB : Below w0.heap.size w0 w) (ho0 : Kd.R (Kd.int .u8) 5 w w0.heap.size P0_ u9000_ l0) (h : utf8_AppendRune.f k l0 a1 = some r) :
  Calls Try.prog 49 #[u9000_, .int .i32 a1] w fun e w' => ∃ v0_ : Value, e = .returned (v0_) ∧ Kd.R (Kd.int .u8) 5 w' w0.heap.size (fun k_ => (P0_ k_ ∨ w.heap.size ≤ k_)) v0_ r ∧ Below w0.heap.size w0 w' ∧ Kept w w' (fun k_ => P0_ k_) := by
 have HO0 := Aside0.mk (show Kd.R (Kd.int .u8) 5 w w0.heap.size (fun k_ => (P0_ k_ ∨ w.heap.size ≤ k_)) u9000_ l0 from Kd.R_mono ho0 (fun k_ hk => (.inl hk)))
 have HK := Aside0.mk (Kept.refl w (fun k_ => P0_ k_))
 have HW0 := Aside0.mk hB.size
 have HB := Aside0.mk hB
 clear hB
 have H : (if ((a1) % 4294967296) ≤ 127 then (if l0.length < 140737488355328 then (some (l0 ++ [(a1) % 256])) else (none)) else ((utf8_appendRuneNonASCII.f k l0 a1).bind fun t144 => (some t144))) = some r := h
 clear h
 by_cases c3 : ((a1) % 4294967296) ≤ 127
 ·rw [if_pos c3] at H
  have c3b0 : decide (((a1) % 4294967296) ≤ 127) = true := decide_eq_true c3
  clear c3
  by_cases c4 : l0.length < 140737488355328
  ·rw [if_pos c4] at H
   have LMc4 := Aside0.mk c4
   clear c4
   obtain ⟨y141, hy141⟩ : ∃ y_ : List Int, y_ = (l0 ++ [(a1) % 256]) := ⟨_, rfl⟩
   replace H : (some y141) = some r := by first | (rw [hy141]; with_reducible exact H) | (have H2_ := (Option.bind_some _ _).symm.trans H; rw [hy141]; with_reducible exact H2_) | (have H2_ := (Option.bind_some _ _).symm.trans H; with_reducible exact H2_) | with_reducible exact H | (rw [hy141]; exact H) | exact H
   have Ny141 := Aside0.mk hy141
   clear hy141
   obtain rfl := Option.some.inj H
   go_enter Try.func49, Try.ntmps49
   go_wp2_with (first | ((with_reducible refine gate_builtin (b := .append) (xs := #[.tmp 8, .tmp 11]) rfl ?_); at_builtin; refine Kd.R_append (Kd.int .u8) (w0 := w0) w0.heap.size rfl (.tmp 8) (.tmp 11) 22 5 (.int .u8 0) 1 rfl Try.underlying22 info5 rfl (by decide) (by omega) u9000_ l0 ((a1) % 256) [.int .u8 ((a1) % 256)] (fun k_ => (P0_ k_ ∨ w.heap.size ≤ k_)) (fun _ => False) rfl rfl ?aP (fun _ hk => hk.elim) ?aF ?aO ?aB ?aS ?aL ?_; (case aP => exact rfl); (case aB => exact bel_); (case aF => exact (fun k_ hk => (.inr (Nat.le_trans (by first | exact HK.out.1 | exact (show Kept w _ (fun k_ => P0_ k_) from by repeat (first | (with_reducible first | exact HK.out | apply Kept.alloc | apply Kept.drewN | apply Kept.drew) | exact HK.out)).1) hk)))); (case aO => exact (by (with_reducible repeat (first | apply Kd.R_alloc | apply Kd.R_drewN | apply Kd.R_drew)); exact HO0.out)); (case aS => exact (below_size bel_)); (case aL => have := LMc4.out; omega); intro v142 w5 ho hb hg hat; rw [← Ny141.out] at ho; have n0_ := Aside0.mk (hb); have n1_ := Aside0.mk (Kept.of_grown (S := (fun k_ => P0_ k_)) hg (by repeat (first | (with_reducible first | exact HK.out | apply Kept.alloc | apply Kept.drewN | apply Kept.drew) | exact HK.out)) (fun k_ e_ => (HO0.out.1 k_ e_))); have n2_ := Aside0.mk (ho); clear HB; clear HK; clear HO0; have HB := n0_; have HK := n1_; have HO143 := n2_; clear n0_ n1_ n2_; clear ho hb hg hat))
   go_ret
   exact ⟨_, rsl_, by (with_reducible repeat (first | apply Kd.R_alloc | apply Kd.R_drewN | apply Kd.R_drew)); exact HO143.out, by repeat (first | (with_reducible first | exact HB.out | apply below_alloc | apply pw_below_drewN | apply below_drew1) | exact HB.out), by repeat (first | (with_reducible first | exact HK.out | apply Kept.alloc | apply Kept.drewN | apply Kept.drew) | exact HK.out)⟩
  ·rw [if_neg c4] at H
   exact absurd H (by simp)
 ·rw [if_neg c3] at H
  have c3b0 : decide (((a1) % 4294967296) ≤ 127) = false := decide_eq_false c3
  clear c3
  replace H := Option.bind_eq_some_iff.mp H
  obtain ⟨t144, A60, H⟩ := H
  try dsimp only at H
  have A6 := Aside0.mk A60
  clear A60
  obtain rfl := Option.some.inj H
  obtain ⟨Ao7, co7, eo7⟩ := Kd.R_slice HO0.out
  subst eo7
  go_enter Try.func49, Try.ntmps49
  go_wp2_with (first | ((with_reducible refine gate_callee (f := 50) rfl ?_); refine goesL_ (some 15) rfl rfl Try.func50 (by kernel_rfl) rfl #[.slice Ao7 l0.length co7, .int .i32 a1] rfl goa_ ?_; (with_reducible refine (utf8_appendRuneNonASCII.calls k (fun k_ => some k_ = (.slice Ao7 l0.length co7 : Value).ownBlock) (.slice Ao7 l0.length co7) l0 a1 t144 w0 _ ?side1 ?side2 A6.out).mono ?_); (case side1 => repeat (first | (with_reducible first | exact HB.out | apply below_alloc | apply pw_below_drewN | apply below_drew1) | exact HB.out)); (case side2 => exact Kd.R_tight rfl HO0.out); rintro e w8 ⟨v145, rfl, ho0, hb, hkp⟩; refine ⟨_, rfl, ?_⟩; have n0_ := Aside0.mk (Kd.R_mono (ok' := fun k_ => (P0_ k_ ∨ w.heap.size ≤ k_)) ho0 (fun k_ hk_ => Or.elim hk_ (fun hs_ => (HO0.out.1 k_ (hs_).symm)) (fun hn_ => (.inr (Nat.le_trans (by first | exact HK.out.1 | exact (show Kept w _ (fun k_ => P0_ k_) from by repeat (first | (with_reducible first | exact HK.out | apply Kept.alloc | apply Kept.drewN | apply Kept.drew) | exact HK.out)).1) hn_))))); have n1_ := Aside0.mk (Kept.then_ (S := (fun k_ => P0_ k_)) (by repeat (first | (with_reducible first | exact HK.out | apply Kept.alloc | apply Kept.drewN | apply Kept.drew) | exact HK.out)) hkp (fun k_ hs_ => (fun e_ => (HO0.out.1 k_ e_.symm)) hs_)); have n2_ := Aside0.mk (hb); clear HK; clear HB; clear HO0; have HO146 := n0_; have HK := n1_; have HB := n2_; clear n0_ n1_ n2_; (try clear hb); (try clear hkp); (try clear ho0)))
  go_ret
  exact ⟨_, rsl_, by (with_reducible repeat (first | apply Kd.R_alloc | apply Kd.R_drewN | apply Kd.R_drew)); exact HO146.out, by repeat (first | (with_reducible first | exact HB.out | apply below_alloc | apply pw_below_drewN | apply below_drew1) | exact HB.out), by repeat (first | (with_reducible first | exact HK.out | apply Kept.alloc | apply Kept.drewN | apply Kept.drew) | exact HK.out)⟩

/-! ### token_character: function 45 -/
def token_character.j0 : Nat → Int → Bool → Option (ByteArray)
 | 0, _, _ => none
 | k + 1, x0, x6 => if x6 = true then ((utf8_AppendRune.f k ([] : List Int) 65533).bind fun t150 => (some (strOfNums t150))) else (if x0 > 1114111 then ((utf8_AppendRune.f k ([] : List Int) 65533).bind fun t153 => (some (strOfNums t153))) else ((utf8_AppendRune.f k ([] : List Int) (wrap32 (x0))).bind fun t156 => (some (strOfNums t156))))
def token_character.f (k : Nat) (a0 : Int) : Option (ByteArray) := if a0 = 0 then ((utf8_AppendRune.f k ([] : List Int) 65533).bind fun t147 => (some (strOfNums t147))) else (if a0 ≥ 55296 then (token_character.j0 k a0 (decide (a0 ≤ 57343))) else (token_character.j0 k a0 false))
theorem token_character.mono_l : ∀ k, (∀ y0 y1, LeO (token_character.j0 k y0 y1) (token_character.j0 (k + 1) y0 y1))
 | 0 => fun _ _ r h => by simp [token_character.j0] at h
 | k + 1 => by
  have ih0 := token_character.mono_l k
  ·intro y0 y1
   unfold token_character.j0
   repeat' first
   | (with_reducible exact ih0 _ _)
   | (with_reducible exact utf8_AppendRune.mono _ _ _)
   | (with_reducible exact LeO.refl _)
   | (with_reducible exact LeO.none _)
   | (with_reducible refine LeO.ite ?_ ?_)
   | (with_reducible refine LeO.bind ?_ (fun _ => ?_))
theorem token_character.mono : ∀ a0 k, LeO (token_character.f k a0) (token_character.f (k + 1) a0) := by
 intro a0 k
 have ih0 := token_character.mono_l k
 unfold token_character.f
 repeat' first
   | (with_reducible exact ih0 _ _)
   | (with_reducible exact utf8_AppendRune.mono _ _ _)
   | (with_reducible exact LeO.refl _)
   | (with_reducible exact LeO.none _)
   | (with_reducible refine LeO.ite ?_ ?_)
   | (with_reducible refine LeO.bind ?_ (fun _ => ?_))
set_option maxHeartbeats 8000000 in
set_option maxRecDepth 100000 in
theorem token_character.calls (k : Nat) (a0 : Int) (r : ByteArray) (w : World) (h : token_character.f k a0 = some r) :
  Calls Try.prog 45 #[.int .i64 a0] w fun e w' => e = .returned (.string r) ∧ Below w.heap.size w w' := by
 have HB := Aside0.mk (Below.refl w.heap.size w)
 have H : (if a0 = 0 then ((utf8_AppendRune.f k ([] : List Int) 65533).bind fun t147 => (some (strOfNums t147))) else (if a0 ≥ 55296 then (token_character.j0 k a0 (decide (a0 ≤ 57343))) else (token_character.j0 k a0 false))) = some r := h
 clear h
 by_cases c2 : a0 = 0
 ·rw [if_pos c2] at H
  have c2b0 : (a0 == 0) = true := beq_iff_eq.mpr c2
  have c2b1 : (a0 != 0) = false := bne_eq_false_iff_eq.mpr c2
  clear c2
  replace H := Option.bind_eq_some_iff.mp H
  obtain ⟨t147, A30, H⟩ := H
  try dsimp only at H
  have A3 := Aside0.mk A30
  clear A30
  obtain rfl := Option.some.inj H
  go_enter Try.func45, Try.ntmps45
  go_wp2_with (first | ((with_reducible refine gate_callee (f := 49) rfl ?_); refine goesL_ (some 17) rfl rfl Try.func49 (by kernel_rfl) rfl #[.slice none 0 0, .int .i32 65533] rfl goa_ ?_; (refine (utf8_AppendRune.calls k (fun k_ => some k_ = (.slice none 0 0 : Value).ownBlock) (.slice none 0 0) ([] : List Int) 65533 t147 w _ ?side1 ?side2 A3.out).mono ?_); (case side1 => repeat (first | (with_reducible first | exact HB.out | apply below_alloc | apply pw_below_drewN | apply below_drew1) | exact HB.out)); (case side2 => exact Kd.R_nil _ _ _ _ _); rintro e w4 ⟨v148, rfl, ho0, hb, hkp⟩; refine ⟨_, rfl, ?_⟩; have n0_ := Aside0.mk (Kd.R_mono (ok' := fun k_ => True) ho0 (fun k_ hk_ => trivial)); have n1_ := Aside0.mk (hb); clear HB; have HO149 := n0_; have HB := n1_; clear n0_ n1_; (try clear hb); (try clear hkp); (try clear ho0); have hcv5 := own_string (P := Try.prog) Try.underlying22 Try.underlying5 Try.underlying9 (Kd.own_of_R HO149.out)))
  go_ret
  exact ⟨rsl_, bel_⟩
 ·rw [if_neg c2] at H
  have c2b0 : (a0 == 0) = false := beq_eq_false_iff_ne.mpr c2
  have c2b1 : (a0 != 0) = true := bne_iff_ne.mpr c2
  have HC6 := Aside0.mk H
  clear H
  go_enter Try.func45, Try.ntmps45
  go_upto_region 2 with (fail)
  go_cut [6] (fun v6 wc => ∃ (kq : Nat) (x6_5 : Bool), v6 = .bool x6_5 ∧ Aside0 (token_character.j0 kq a0 x6_5 = some r) ∧ Aside0 (kq ≤ k) ∧ Aside0 (Below w.heap.size w wc))
  case first =>
   have H := HC6.out
   clear HC6
   by_cases c7 : a0 ≥ 55296
   ·rw [if_pos c7] at H
    have c7b0 : decide (55296 ≤ a0) = true := decide_eq_true c7
    clear c7
    (first | rw [c7b0] | (simp only [i64_w, i32_w]; rw [c7b0]) | skip)
    have H' := Aside0.mk H
    clear H
    go_wp2
    go_meet
    case rel => exact ⟨_, (decide (a0 ≤ 57343)), rfs_, (by first | exact H' | (subst_vars; exact H')), ⟨ole_⟩, ⟨bel_⟩⟩
   ·rw [if_neg c7] at H
    have c7b0 : decide (55296 ≤ a0) = false := decide_eq_false c7
    clear c7
    (first | rw [c7b0] | (simp only [i64_w, i32_w]; rw [c7b0]) | skip)
    have H' := Aside0.mk H
    clear H
    go_wp2
    go_meet
    case rel => exact ⟨_, (false), rfs_, (by first | exact H' | (subst_vars; exact H')), ⟨ole_⟩, ⟨bel_⟩⟩
  case rest =>
   clear HC6
   try clear c2
   try clear c2b0
   try clear c2b1
   try clear p2
   try clear c4
   try clear hcv5
   try clear c7
   try clear c7b0
   obtain ⟨kq, x6_5, rfl, HA, HJ5, HB⟩ := hcut
   cases kq with
   | zero => exact absurd HA.out (by simp [token_character.j0])
   | succ kj5 =>
    have H := HA.out
    clear HA
    simp only [token_character.j0] at H
    by_cases c8 : x6_5 = true
    ·subst c8
     rw [if_pos rfl] at H
     replace H := Option.bind_eq_some_iff.mp H
     obtain ⟨t150, A90, H⟩ := H
     try dsimp only at H
     have A9 := Aside0.mk A90
     clear A90
     obtain rfl := Option.some.inj H
     go_wp2_with (first | ((with_reducible refine gate_callee (f := 49) rfl ?_); refine goesL_ (some 17) rfl rfl Try.func49 (by kernel_rfl) rfl #[.slice none 0 0, .int .i32 65533] rfl goa_ ?_; (refine (utf8_AppendRune.calls kj5 (fun k_ => some k_ = (.slice none 0 0 : Value).ownBlock) (.slice none 0 0) ([] : List Int) 65533 t150 w _ ?side1 ?side2 A9.out).mono ?_); (case side1 => repeat (first | (with_reducible first | exact HB.out | apply below_alloc | apply pw_below_drewN | apply below_drew1) | exact HB.out)); (case side2 => exact Kd.R_nil _ _ _ _ _); rintro e w10 ⟨v151, rfl, ho0, hb, hkp⟩; refine ⟨_, rfl, ?_⟩; have n0_ := Aside0.mk (Kd.R_mono (ok' := fun k_ => True) ho0 (fun k_ hk_ => trivial)); have n1_ := Aside0.mk (hb); clear HB; have HO152 := n0_; have HB := n1_; clear n0_ n1_; (try clear hb); (try clear hkp); (try clear ho0); have hcv11 := own_string (P := Try.prog) Try.underlying22 Try.underlying5 Try.underlying9 (Kd.own_of_R HO152.out)))
     go_ret
     exact ⟨rsl_, bel_⟩
    ·replace c8 := Bool.eq_false_iff.mpr c8
     subst c8
     rw [if_neg (show ¬ (false = true) by decide)] at H
     by_cases c12 : a0 > 1114111
     ·rw [if_pos c12] at H
      have c12b0 : decide (1114111 < a0) = true := decide_eq_true c12
      clear c12
      replace H := Option.bind_eq_some_iff.mp H
      obtain ⟨t153, A130, H⟩ := H
      try dsimp only at H
      have A13 := Aside0.mk A130
      clear A130
      obtain rfl := Option.some.inj H
      go_wp2_with (first | ((with_reducible refine gate_callee (f := 49) rfl ?_); refine goesL_ (some 17) rfl rfl Try.func49 (by kernel_rfl) rfl #[.slice none 0 0, .int .i32 65533] rfl goa_ ?_; (refine (utf8_AppendRune.calls kj5 (fun k_ => some k_ = (.slice none 0 0 : Value).ownBlock) (.slice none 0 0) ([] : List Int) 65533 t153 w _ ?side1 ?side2 A13.out).mono ?_); (case side1 => repeat (first | (with_reducible first | exact HB.out | apply below_alloc | apply pw_below_drewN | apply below_drew1) | exact HB.out)); (case side2 => exact Kd.R_nil _ _ _ _ _); rintro e w14 ⟨v154, rfl, ho0, hb, hkp⟩; refine ⟨_, rfl, ?_⟩; have n0_ := Aside0.mk (Kd.R_mono (ok' := fun k_ => True) ho0 (fun k_ hk_ => trivial)); have n1_ := Aside0.mk (hb); clear HB; have HO155 := n0_; have HB := n1_; clear n0_ n1_; (try clear hb); (try clear hkp); (try clear ho0); have hcv15 := own_string (P := Try.prog) Try.underlying22 Try.underlying5 Try.underlying9 (Kd.own_of_R HO155.out)))
      go_ret
      exact ⟨rsl_, bel_⟩
     ·rw [if_neg c12] at H
      have c12b0 : decide (1114111 < a0) = false := decide_eq_false c12
      clear c12
      replace H := Option.bind_eq_some_iff.mp H
      obtain ⟨t156, A160, H⟩ := H
      try dsimp only at H
      have A16 := Aside0.mk A160
      clear A160
      obtain rfl := Option.some.inj H
      go_wp2_with (first | ((with_reducible refine gate_callee (f := 49) rfl ?_); refine goesL_ (some 17) rfl rfl Try.func49 (by kernel_rfl) rfl #[.slice none 0 0, .int .i32 (wrap32 (a0))] rfl goa_ ?_; (refine (utf8_AppendRune.calls kj5 (fun k_ => some k_ = (.slice none 0 0 : Value).ownBlock) (.slice none 0 0) ([] : List Int) (wrap32 (a0)) t156 w _ ?side1 ?side2 A16.out).mono ?_); (case side1 => repeat (first | (with_reducible first | exact HB.out | apply below_alloc | apply pw_below_drewN | apply below_drew1) | exact HB.out)); (case side2 => exact Kd.R_nil _ _ _ _ _); rintro e w17 ⟨v157, rfl, ho0, hb, hkp⟩; refine ⟨_, rfl, ?_⟩; have n0_ := Aside0.mk (Kd.R_mono (ok' := fun k_ => True) ho0 (fun k_ hk_ => trivial)); have n1_ := Aside0.mk (hb); clear HB; have HO158 := n0_; have HB := n1_; clear n0_ n1_; (try clear hb); (try clear hkp); (try clear ho0); have hcv18 := own_string (P := Try.prog) Try.underlying22 Try.underlying5 Try.underlying9 (Kd.own_of_R HO158.out)))
      go_ret
      exact ⟨rsl_, bel_⟩

end Go.Proofs.Ytholgbdfflabhaa.PTk
end
section
namespace Go.Proofs.Ytholgbdfflabhaa.PTk
open Go.RowKit Go.Proofs.YtholgbdfflabhaaW.PrintWords Go.Proofs.YtholgbdfflabhaaW.PrintLast Go.Proofs.YtholgbdfflabhaaW.PrintMore
attribute [local go_sem] max2_int min2_int max_two min_two max_three min_three max_four min_four
open Go.Proofs.Ytholgbdfflabhaa.Opn Go.Proofs.Ytholgbdfflabhaa.Giv

/-! ### token_Hex: function 32 -/
mutual
def token_Hex.j0 : Nat → ByteArray → Int → Bool → Option (ByteArray × Int)
 | 0, _, _, _ => none
 | k + 1, x0, x1, x31 => if x31 = true then (some ((⟨#[]⟩ : ByteArray), 0)) else (token_Hex.l0 k x0 x1 0 0 0)
def token_Hex.j2 : Nat → ByteArray → Int → Int → Int → Option (ByteArray × Int)
 | 0, _, _, _, _ => none
 | k + 1, x0, x1, x6, x7 => if x7 = 0 then (if 0 ≤ (wrap64 (x1 + 1)) then (if (wrap64 (x1 + 1)) ≤ (wrap64 (x1 + 2)) then (if (wrap64 (x1 + 2)) ≤ (x0.size : Int) then (some (x0.extract ((wrap64 (x1 + 1)) : Int).toNat ((wrap64 (x1 + 2)) : Int).toNat, 2)) else (none)) else (none)) else (none)) else (if (wrap64 ((wrap64 (x1 + 1)) + x7)) < (x0.size : Int) then (if 0 ≤ (wrap64 ((wrap64 (x1 + 1)) + x7)) then ((token_blank.f (bt x0 (wrap64 ((wrap64 (x1 + 1)) + x7)))).bind fun t162 => (if t162 = true then ((token_character.f k x6).bind fun t163 => (some (t163, wrap64 ((wrap64 ((wrap64 ((wrap64 (x1 + 1)) + x7)) + 1)) - x1)))) else ((token_character.f k x6).bind fun t164 => (some (t164, wrap64 ((wrap64 ((wrap64 (x1 + 1)) + x7)) - x1)))))) else (none)) else ((token_character.f k x6).bind fun t165 => (some (t165, wrap64 ((wrap64 ((wrap64 (x1 + 1)) + x7)) - x1)))))
def token_Hex.l0 : Nat → ByteArray → Int → Int → Int → Int → Option (ByteArray × Int)
 | 0, _, _, _, _, _ => none
 | k + 1, x0, x1, x6, x7, x32 => if x32 < 6 then (if (wrap64 ((wrap64 (x1 + 1)) + x32)) ≥ (x0.size : Int) then (token_Hex.j2 k x0 x1 x6 x7) else (if 0 ≤ (wrap64 ((wrap64 (x1 + 1)) + x32)) then (if (wrap64 ((wrap64 (x1 + 1)) + x32)) < (x0.size : Int) then ((token_hex.f k (bt x0 (wrap64 ((wrap64 (x1 + 1)) + x32)))).bind fun t160 => (if t160 < 0 then (token_Hex.j2 k x0 x1 x6 x7) else ((token_hex.f k (bt x0 (wrap64 ((wrap64 (x1 + 1)) + x32)))).bind fun t161 => (token_Hex.l0 k x0 x1 (wrap64 ((wrap64 (x6 * 16)) + t161)) (wrap64 (x7 + 1)) (wrap64 (x32 + 1)))))) else (none)) else (none))) else (token_Hex.j2 k x0 x1 x6 x7)
end
def token_Hex.f (k : Nat) (a0 : ByteArray) (a1 : Int) : Option (ByteArray × Int) := if a1 < 0 then (token_Hex.j0 k a0 a1 true) else (if a1 > (wrap64 ((a0.size : Int) - 2)) then (token_Hex.j0 k a0 a1 true) else (if 0 ≤ a1 then (if a1 < (a0.size : Int) then (if (bt a0 a1) = 92 then (if 0 ≤ (wrap64 (a1 + 1)) then (if (wrap64 (a1 + 1)) < (a0.size : Int) then ((token_feed.f (bt a0 (wrap64 (a1 + 1)))).bind fun t159 => (token_Hex.j0 k a0 a1 t159)) else (none)) else (none)) else (token_Hex.j0 k a0 a1 true)) else (none)) else (none)))
theorem token_Hex.mono_l : ∀ k, (∀ y0 y1 y2, LeO (token_Hex.j0 k y0 y1 y2) (token_Hex.j0 (k + 1) y0 y1 y2)) ∧ (∀ y0 y1 y2 y3, LeO (token_Hex.j2 k y0 y1 y2 y3) (token_Hex.j2 (k + 1) y0 y1 y2 y3)) ∧ (∀ y0 y1 y2 y3 y4, LeO (token_Hex.l0 k y0 y1 y2 y3 y4) (token_Hex.l0 (k + 1) y0 y1 y2 y3 y4))
 | 0 => ⟨fun _ _ _ r h => by simp [token_Hex.j0] at h, fun _ _ _ _ r h => by simp [token_Hex.j2] at h, fun _ _ _ _ _ r h => by simp [token_Hex.l0] at h⟩
 | k + 1 => by
  obtain ⟨ih0, ih1, ih2⟩ := token_Hex.mono_l k
  refine ⟨?_, ?_, ?_⟩
  ·intro y0 y1 y2
   unfold token_Hex.j0
   repeat' first
   | (with_reducible exact ih0 _ _ _)
   | (with_reducible exact ih1 _ _ _ _)
   | (with_reducible exact ih2 _ _ _ _ _)
   | (with_reducible exact token_character.mono _ _)
   | (with_reducible exact token_hex.mono _ _)
   | (with_reducible exact LeO.refl _)
   | (with_reducible exact LeO.none _)
   | (with_reducible refine LeO.ite ?_ ?_)
   | (with_reducible refine LeO.bind ?_ (fun _ => ?_))
  ·intro y0 y1 y2 y3
   unfold token_Hex.j2
   repeat' first
   | (with_reducible exact ih0 _ _ _)
   | (with_reducible exact ih1 _ _ _ _)
   | (with_reducible exact ih2 _ _ _ _ _)
   | (with_reducible exact token_character.mono _ _)
   | (with_reducible exact token_hex.mono _ _)
   | (with_reducible exact LeO.refl _)
   | (with_reducible exact LeO.none _)
   | (with_reducible refine LeO.ite ?_ ?_)
   | (with_reducible refine LeO.bind ?_ (fun _ => ?_))
  ·intro y0 y1 y2 y3 y4
   unfold token_Hex.l0
   repeat' first
   | (with_reducible exact ih0 _ _ _)
   | (with_reducible exact ih1 _ _ _ _)
   | (with_reducible exact ih2 _ _ _ _ _)
   | (with_reducible exact token_character.mono _ _)
   | (with_reducible exact token_hex.mono _ _)
   | (with_reducible exact LeO.refl _)
   | (with_reducible exact LeO.none _)
   | (with_reducible refine LeO.ite ?_ ?_)
   | (with_reducible refine LeO.bind ?_ (fun _ => ?_))
theorem token_Hex.mono : ∀ a0 a1 k, LeO (token_Hex.f k a0 a1) (token_Hex.f (k + 1) a0 a1) := by
 intro a0 a1 k
 obtain ⟨ih0, ih1, ih2⟩ := token_Hex.mono_l k
 unfold token_Hex.f
 repeat' first
   | (with_reducible exact ih0 _ _ _)
   | (with_reducible exact ih1 _ _ _ _)
   | (with_reducible exact ih2 _ _ _ _ _)
   | (with_reducible exact token_character.mono _ _)
   | (with_reducible exact token_hex.mono _ _)
   | (with_reducible exact LeO.refl _)
   | (with_reducible exact LeO.none _)
   | (with_reducible refine LeO.ite ?_ ?_)
   | (with_reducible refine LeO.bind ?_ (fun _ => ?_))
set_option maxHeartbeats 8000000 in
set_option maxRecDepth 100000 in
theorem token_Hex.calls (k : Nat) (a0 : ByteArray) (a1 : Int) (r1 : ByteArray) (r2 : Int) (w : World) (h : token_Hex.f k a0 a1 = some (r1, r2)) :
  Calls Try.prog 32 #[.string a0, .int .i64 a1] w fun e w' => e = .returned (.tuple #[.string r1, .int .i64 r2]) ∧ Below w.heap.size w w' := by
 have HB := Aside0.mk (Below.refl w.heap.size w)
 have H : (if a1 < 0 then (token_Hex.j0 k a0 a1 true) else (if a1 > (wrap64 ((a0.size : Int) - 2)) then (token_Hex.j0 k a0 a1 true) else (if 0 ≤ a1 then (if a1 < (a0.size : Int) then (if (bt a0 a1) = 92 then (if 0 ≤ (wrap64 (a1 + 1)) then (if (wrap64 (a1 + 1)) < (a0.size : Int) then ((token_feed.f (bt a0 (wrap64 (a1 + 1)))).bind fun t159 => (token_Hex.j0 k a0 a1 t159)) else (none)) else (none)) else (token_Hex.j0 k a0 a1 true)) else (none)) else (none)))) = some (r1, r2) := h
 clear h
 have HC3 := Aside0.mk H
 clear H
 go_enter Try.func32, Try.ntmps32
 go_upto_region 1 with (fail)
 go_cut [31] (fun v31 wc => ∃ (kq : Nat) (x31_2 : Bool), v31 = .bool x31_2 ∧ Aside0 (token_Hex.j0 kq a0 a1 x31_2 = some (r1, r2)) ∧ Aside0 (kq ≤ k) ∧ Aside0 (Below w.heap.size w wc))
 case first =>
  have H := HC3.out
  clear HC3
  by_cases c4 : a1 < 0
  ·rw [if_pos c4] at H
   have c4b0 : decide (a1 < 0) = true := decide_eq_true c4
   clear c4
   (first | rw [c4b0] | (simp only [i64_w, i32_w]; rw [c4b0]) | skip)
   have H' := Aside0.mk H
   clear H
   go_wp2
   go_meet
   case rel => exact ⟨_, (true), rfs_, (by first | exact H' | (subst_vars; exact H')), ⟨ole_⟩, ⟨bel_⟩⟩
  ·rw [if_neg c4] at H
   have c4b0 : decide (a1 < 0) = false := decide_eq_false c4
   clear c4
   (first | rw [c4b0] | (simp only [i64_w, i32_w]; rw [c4b0]) | skip)
   by_cases c5 : a1 > (wrap64 ((a0.size : Int) - 2))
   ·rw [if_pos c5] at H
    have c5b0 : decide ((wrap64 ((a0.size : Int) - 2)) < a1) = true := decide_eq_true c5
    clear c5
    have H' := Aside0.mk H
    clear H
    go_wp2
    go_meet
    case rel => exact ⟨_, (true), rfs_, (by first | exact H' | (subst_vars; exact H')), ⟨ole_⟩, ⟨bel_⟩⟩
   ·rw [if_neg c5] at H
    have c5b0 : decide ((wrap64 ((a0.size : Int) - 2)) < a1) = false := decide_eq_false c5
    clear c5
    by_cases c6 : 0 ≤ a1
    ·rw [if_pos c6] at H
     have c6b0 : decide (0 ≤ a1) = true := decide_eq_true c6
     clear c6
     by_cases c7 : a1 < (a0.size : Int)
     ·rw [if_pos c7] at H
      have c7b0 : decide (a1 < (a0.size : Int)) = true := decide_eq_true c7
      clear c7
      by_cases c9 : (bt a0 a1) = 92
      ·rw [if_pos c9] at H
       have c9b0 : ((bt a0 a1) == 92) = true := beq_iff_eq.mpr c9
       have c9b1 : ((bt a0 a1) != 92) = false := bne_eq_false_iff_eq.mpr c9
       clear c9
       obtain ⟨ji10, hji10⟩ : ∃ j_ : Int, (wrap64 (a1 + 1)) = j_ := ⟨_, rfl⟩
       replace H : (if 0 ≤ (ji10) then (if (ji10) < (a0.size : Int) then ((token_feed.f (bt a0 (ji10))).bind fun t159 => (token_Hex.j0 k a0 a1 t159)) else (none)) else (none)) = some (r1, r2) := by first | (rw [hji10] at H; exact H) | (simp only [hji10] at H ⊢; exact H)
       have hji10w : (IntKind.i64.wrap (a1 + 1)) = ji10 := (i64_w _).trans hji10
       by_cases c11 : 0 ≤ (ji10)
       ·rw [if_pos c11] at H
        have c11b0 : decide (0 ≤ (ji10)) = true := decide_eq_true c11
        clear c11
        by_cases c12 : (ji10) < (a0.size : Int)
        ·rw [if_pos c12] at H
         have c12b0 : decide ((ji10) < (a0.size : Int)) = true := decide_eq_true c12
         clear c12
         replace H := Option.bind_eq_some_iff.mp H
         obtain ⟨t159, A140, H⟩ := H
         try dsimp only at H
         have A14 := Aside0.mk A140
         clear A140
         have H' := Aside0.mk H
         clear H
         have p8 : 0 ≤ (a1 : Int) := of_decide_eq_true (by first | (with_reducible assumption) | assumption)
         have q8 : a1 < (a0.size : Int) := of_decide_eq_true (by first | (with_reducible assumption) | assumption)
         have hx8 := bt_at a0 a1
         replace p8 := eq_true p8
         replace q8 := eq_true q8
         have p13 : 0 ≤ ((ji10) : Int) := of_decide_eq_true (by first | (with_reducible assumption) | assumption)
         have q13 : (ji10) < (a0.size : Int) := of_decide_eq_true (by first | (with_reducible assumption) | assumption)
         have hx13 := bt_at a0 (ji10)
         replace p13 := eq_true p13
         replace q13 := eq_true q13
         go_wp2_with (first | (go_at_call 22; (with_reducible refine (token_feed.calls (bt a0 (ji10)) t159 _ A14.out).mono ?_); rintro e w' ⟨rfl, ⟨nd, rfl⟩⟩))
         go_meet
         case rel => exact ⟨_, (t159), rfs_, (by first | exact H' | (subst_vars; exact H')), ⟨ole_⟩, ⟨bel_⟩⟩
        ·rw [if_neg c12] at H
         exact absurd H (by simp)
       ·rw [if_neg c11] at H
        exact absurd H (by simp)
      ·rw [if_neg c9] at H
       have c9b0 : ((bt a0 a1) == 92) = false := beq_eq_false_iff_ne.mpr c9
       have c9b1 : ((bt a0 a1) != 92) = true := bne_iff_ne.mpr c9
       have H' := Aside0.mk H
       clear H
       have p8 : 0 ≤ (a1 : Int) := of_decide_eq_true (by first | (with_reducible assumption) | assumption)
       have q8 : a1 < (a0.size : Int) := of_decide_eq_true (by first | (with_reducible assumption) | assumption)
       have hx8 := bt_at a0 a1
       replace p8 := eq_true p8
       replace q8 := eq_true q8
       go_wp2
       go_meet
       case rel => exact ⟨_, (true), rfs_, (by first | exact H' | (subst_vars; exact H')), ⟨ole_⟩, ⟨bel_⟩⟩
     ·rw [if_neg c7] at H
      exact absurd H (by simp)
    ·rw [if_neg c6] at H
     exact absurd H (by simp)
 case rest =>
  clear HC3
  try clear c1
  try clear p1
  try clear q1
  try clear hx1
  try clear p2
  try clear c3
  try clear c4
  try clear c4b0
  try clear c5
  try clear c5b0
  try clear c6
  try clear c6b0
  try clear p6
  try clear c7
  try clear c7b0
  try clear p8
  try clear q8
  try clear hx8
  try clear c9
  try clear c9b0
  try clear c9b1
  try clear c11
  try clear c11b0
  try clear c12
  try clear c12b0
  try clear p13
  try clear q13
  try clear hx13
  try clear p13
  try clear p8
  try clear q13
  try clear q8
  obtain ⟨kq, x31_2, rfl, HA, HJ2, HB⟩ := hcut
  cases kq with
  | zero => exact absurd HA.out (by simp [token_Hex.j0])
  | succ kj2 =>
   have H := HA.out
   clear HA
   simp only [token_Hex.j0] at H
   by_cases c15 : x31_2 = true
   ·subst c15
    rw [if_pos rfl] at H
    simp only [Option.some.injEq, Prod.mk.injEq] at H
    obtain ⟨rfl, rfl⟩ := H
    go_wp2
    go_ret2
    exact ⟨rsl_, bel_⟩
   ·replace c15 := Bool.eq_false_iff.mpr c15
    subst c15
    rw [if_neg (show ¬ (false = true) by decide)] at H
    have HC16 := Aside0.mk H
    clear H
    go_upto_block 0 with (fail)
    go_cut [6, 7] (fun v6 v7 wc => ∃ (kq : Nat) (x6_15 : Int) (x7_15 : Int), v6 = .int .i64 x6_15 ∧ v7 = .int .i64 x7_15 ∧ Aside0 (token_Hex.j2 kq a0 a1 x6_15 x7_15 = some (r1, r2)) ∧ Aside0 (kq ≤ kj2) ∧ Aside0 (Below w.heap.size w wc))
    case first =>
     have H := HC16.out
     clear HC16
     have H' := Aside0.mk H
     clear H
     go_wp2
     go_loopg [6, 7, 32] kj2 (fun kq v6 v7 v32 w' => ∃ (x6_2 : Int) (x7_2 : Int) (x32_2 : Int), v6 = .int .i64 x6_2 ∧ v7 = .int .i64 x7_2 ∧ v32 = .int .i64 x32_2 ∧ Aside0 (token_Hex.l0 kq a0 a1 x6_2 x7_2 x32_2 = some (r1, r2)) ∧ Aside0 (kq ≤ kj2) ∧ Aside0 (Below w.heap.size w w'))
     case atStart => exact ⟨(0), (0), (0), rfs_, rfs_, rfs_, H', ⟨Nat.le_refl _⟩, ⟨bel_⟩⟩
     case round =>
      clear H'
      try clear c1
      try clear p1
      try clear q1
      try clear hx1
      try clear p2
      try clear c3
      try clear c4
      try clear c4b0
      try clear c5
      try clear c5b0
      try clear c6
      try clear c6b0
      try clear p6
      try clear c7
      try clear c7b0
      try clear p8
      try clear q8
      try clear hx8
      try clear c9
      try clear c9b0
      try clear c9b1
      try clear c11
      try clear c11b0
      try clear c12
      try clear c12b0
      try clear p13
      try clear q13
      try clear hx13
      try clear c15
      try clear p1
      try clear p13
      try clear p2
      try clear p6
      try clear p8
      try clear q1
      try clear q13
      try clear q8
      obtain ⟨x6_2, x7_2, x32_2, rfl, rfl, rfl, HA, HK2, HB⟩ := hrel
      cases gk with
      | zero => exact absurd HA.out (by simp [token_Hex.l0])
      | succ k2 =>
       have H := HA.out
       clear HA
       simp only [token_Hex.l0] at H
       by_cases c17 : x32_2 < 6
       ·rw [if_pos c17] at H
        have c17b0 : decide (x32_2 < 6) = true := decide_eq_true c17
        clear c17
        (first | rw [c17b0] | (simp only [i64_w, i32_w]; rw [c17b0]) | skip)
        by_cases c18 : (wrap64 ((wrap64 (a1 + 1)) + x32_2)) ≥ (a0.size : Int)
        ·rw [if_pos c18] at H
         have c18b0 : decide ((a0.size : Int) ≤ (wrap64 ((wrap64 (a1 + 1)) + x32_2))) = true := decide_eq_true c18
         clear c18
         have H' := Aside0.mk H
         clear H
         go_wp2
         go_meet
         case rel => exact ⟨_, (x6_2), (x7_2), rfs_, rfs_, H', ⟨by have := HJ2.out; have := HK2.out; first | omega | exact Nat.le_refl _⟩, ⟨bel_⟩⟩
        ·rw [if_neg c18] at H
         have c18b0 : decide ((a0.size : Int) ≤ (wrap64 ((wrap64 (a1 + 1)) + x32_2))) = false := decide_eq_false c18
         clear c18
         obtain ⟨ji19, hji19⟩ : ∃ j_ : Int, (wrap64 ((wrap64 (a1 + 1)) + x32_2)) = j_ := ⟨_, rfl⟩
         replace H : (if 0 ≤ (ji19) then (if (ji19) < (a0.size : Int) then ((token_hex.f k2 (bt a0 (ji19))).bind fun t160 => (if t160 < 0 then (token_Hex.j2 k2 a0 a1 x6_2 x7_2) else ((token_hex.f k2 (bt a0 (ji19))).bind fun t161 => (token_Hex.l0 k2 a0 a1 (wrap64 ((wrap64 (x6_2 * 16)) + t161)) (wrap64 (x7_2 + 1)) (wrap64 (x32_2 + 1)))))) else (none)) else (none)) = some (r1, r2) := by first | (rw [hji19] at H; exact H) | (simp only [hji19] at H ⊢; exact H)
         (try rw [hji19] at c18b0)
         have hji19w : (IntKind.i64.wrap ((wrap64 (a1 + 1)) + x32_2)) = ji19 := (i64_w _).trans hji19
         by_cases c20 : 0 ≤ (ji19)
         ·rw [if_pos c20] at H
          have c20b0 : decide (0 ≤ (ji19)) = true := decide_eq_true c20
          clear c20
          by_cases c21 : (ji19) < (a0.size : Int)
          ·rw [if_pos c21] at H
           have c21b0 : decide ((ji19) < (a0.size : Int)) = true := decide_eq_true c21
           clear c21
           replace H := Option.bind_eq_some_iff.mp H
           obtain ⟨t160, A230, H⟩ := H
           try dsimp only at H
           have A23 := Aside0.mk A230
           clear A230
           by_cases c24 : t160 < 0
           ·rw [if_pos c24] at H
            have c24b0 : decide (t160 < 0) = true := decide_eq_true c24
            clear c24
            have H' := Aside0.mk H
            clear H
            have p22 : 0 ≤ ((ji19) : Int) := of_decide_eq_true (by first | (with_reducible assumption) | assumption)
            have q22 : (ji19) < (a0.size : Int) := of_decide_eq_true (by first | (with_reducible assumption) | assumption)
            have hx22 := bt_at a0 (ji19)
            replace p22 := eq_true p22
            replace q22 := eq_true q22
            go_wp2_with (first | (go_at_call 44; (with_reducible refine (token_hex.calls k2 (bt a0 (ji19)) t160 _ A23.out).mono ?_); rintro e w' ⟨rfl, ⟨nd, rfl⟩⟩))
            go_meet
            case rel => exact ⟨_, (x6_2), (x7_2), rfs_, rfs_, H', ⟨by have := HJ2.out; have := HK2.out; first | omega | exact Nat.le_refl _⟩, ⟨bel_⟩⟩
           ·rw [if_neg c24] at H
            have c24b0 : decide (t160 < 0) = false := decide_eq_false c24
            clear c24
            replace H := Option.bind_eq_some_iff.mp H
            obtain ⟨t161, A260, H⟩ := H
            try dsimp only at H
            have A26 := Aside0.mk A260
            clear A260
            have H' := Aside0.mk H
            clear H
            have p22 : 0 ≤ ((ji19) : Int) := of_decide_eq_true (by first | (with_reducible assumption) | assumption)
            have q22 : (ji19) < (a0.size : Int) := of_decide_eq_true (by first | (with_reducible assumption) | assumption)
            have hx22 := bt_at a0 (ji19)
            replace p22 := eq_true p22
            replace q22 := eq_true q22
            go_wp2_with (first | (go_at_call 44; (with_reducible refine (token_hex.calls k2 (bt a0 (ji19)) t160 _ A23.out).mono ?_); rintro e w' ⟨rfl, ⟨nd, rfl⟩⟩; have p25 : 0 ≤ ((ji19) : Int) := of_decide_eq_true (by first | (with_reducible assumption) | assumption); have q25 : (ji19) < (a0.size : Int) := of_decide_eq_true (by first | (with_reducible assumption) | assumption); have hx25 := bt_at a0 (ji19); replace p25 := eq_true p25; replace q25 := eq_true q25) | ((with_reducible refine gate_callee (f := 44) rfl ?_); refine goesL_ (some 60) rfl rfl Try.func44 (by kernel_rfl) rfl #[.int .u8 (bt a0 (ji19))] rfl (by (try simp only [List.map_toArray, List.map_cons, List.map_nil]); first | done | (simp only [hji19]; rfl) | rfl | (simp only [List.length_drop, List.length_take]; rfl)) ?_; (with_reducible refine (token_hex.calls k2 (bt a0 (ji19)) t161 _ A26.out).mono ?_); rintro e w' ⟨rfl, ⟨nd, rfl⟩⟩; refine ⟨_, rfl, ?_⟩))
            go_roundg k2
            case measure => have := HJ2.out; have := HK2.out; omega
            case rel => exact ⟨(wrap64 ((wrap64 (x6_2 * 16)) + t161)), (wrap64 (x7_2 + 1)), (wrap64 (x32_2 + 1)), rfs_, rfs_, rfs_, H', ⟨by have := HJ2.out; have := HK2.out; omega⟩, ⟨bel_⟩⟩
          ·rw [if_neg c21] at H
           exact absurd H (by simp)
         ·rw [if_neg c20] at H
          exact absurd H (by simp)
       ·rw [if_neg c17] at H
        have c17b0 : decide (x32_2 < 6) = false := decide_eq_false c17
        clear c17
        (first | rw [c17b0] | (simp only [i64_w, i32_w]; rw [c17b0]) | skip)
        have H' := Aside0.mk H
        clear H
        go_wp2
        go_meet
        case rel => exact ⟨_, (x6_2), (x7_2), rfs_, rfs_, H', ⟨by have := HJ2.out; have := HK2.out; first | omega | exact Nat.le_refl _⟩, ⟨bel_⟩⟩
    case rest =>
     clear HC16
     try clear c1
     try clear p1
     try clear q1
     try clear hx1
     try clear c2
     try clear p2
     try clear q2
     try clear hx2
     try clear c3
     try clear c4
     try clear c4b0
     try clear c5
     try clear c5b0
     try clear c6
     try clear c6b0
     try clear p6
     try clear c7
     try clear c7b0
     try clear p8
     try clear q8
     try clear hx8
     try clear c9
     try clear c9b0
     try clear c9b1
     try clear c11
     try clear c11b0
     try clear c12
     try clear c12b0
     try clear p13
     try clear q13
     try clear hx13
     try clear c15
     try clear c17
     try clear c17b0
     try clear c18
     try clear c18b0
     try clear c20
     try clear c20b0
     try clear c21
     try clear c21b0
     try clear p22
     try clear q22
     try clear hx22
     try clear c24
     try clear c24b0
     try clear p25
     try clear q25
     try clear hx25
     try clear p1
     try clear p13
     try clear p2
     try clear p22
     try clear p25
     try clear p6
     try clear p8
     try clear q1
     try clear q13
     try clear q22
     try clear q25
     try clear q8
     obtain ⟨kq, x6_15, x7_15, rfl, rfl, HA, HJ15, HB⟩ := hcut
     cases kq with
     | zero => exact absurd HA.out (by simp [token_Hex.j2])
     | succ kj15 =>
      have H := HA.out
      clear HA
      simp only [token_Hex.j2] at H
      by_cases c27 : x7_15 = 0
      ·rw [if_pos c27] at H
       have c27b0 : (x7_15 == 0) = true := beq_iff_eq.mpr c27
       have c27b1 : (x7_15 != 0) = false := bne_eq_false_iff_eq.mpr c27
       clear c27
       obtain ⟨ji28, hji28⟩ : ∃ j_ : Int, (wrap64 (a1 + 1)) = j_ := ⟨_, rfl⟩
       replace H : (if 0 ≤ (ji28) then (if (ji28) ≤ (wrap64 (a1 + 2)) then (if (wrap64 (a1 + 2)) ≤ (a0.size : Int) then (some (a0.extract ((ji28) : Int).toNat ((wrap64 (a1 + 2)) : Int).toNat, 2)) else (none)) else (none)) else (none)) = some (r1, r2) := by first | (rw [hji28] at H; exact H) | (simp only [hji28] at H ⊢; exact H)
       have hji28w : (IntKind.i64.wrap (a1 + 1)) = ji28 := (i64_w _).trans hji28
       by_cases c29 : 0 ≤ (ji28)
       ·rw [if_pos c29] at H
        have c29b0 := eq_true c29
        have c29b1 : decide (0 ≤ (ji28)) = true := decide_eq_true c29
        clear c29
        by_cases c30 : (ji28) ≤ (wrap64 (a1 + 2))
        ·rw [if_pos c30] at H
         have c30b0 := eq_true c30
         have c30b1 : decide ((ji28) ≤ (wrap64 (a1 + 2))) = true := decide_eq_true c30
         by_cases c31 : (wrap64 (a1 + 2)) ≤ (a0.size : Int)
         ·rw [if_pos c31] at H
          have c31b0 := eq_true c31
          have c31b1 : decide ((wrap64 (a1 + 2)) ≤ (a0.size : Int)) = true := decide_eq_true c31
          simp only [Option.some.injEq, Prod.mk.injEq] at H
          obtain ⟨rfl, rfl⟩ := H
          go_wp2
          go_ret2
          exact ⟨by first | rfl | (simp [errW_none, errW_some] <;> rfl) | (simp only [← hji28]; first | rfl | (simp [errW_none, errW_some] <;> rfl)) | (simp [*, errW_none, errW_some] <;> rfl), bel_⟩
         ·rw [if_neg c31] at H
          exact absurd H (by simp)
        ·rw [if_neg c30] at H
         exact absurd H (by simp)
       ·rw [if_neg c29] at H
        exact absurd H (by simp)
      ·rw [if_neg c27] at H
       have c27b0 : (x7_15 == 0) = false := beq_eq_false_iff_ne.mpr c27
       have c27b1 : (x7_15 != 0) = true := bne_iff_ne.mpr c27
       by_cases c32 : (wrap64 ((wrap64 (a1 + 1)) + x7_15)) < (a0.size : Int)
       ·rw [if_pos c32] at H
        have c32b0 : decide ((wrap64 ((wrap64 (a1 + 1)) + x7_15)) < (a0.size : Int)) = true := decide_eq_true c32
        clear c32
        obtain ⟨ji33, hji33⟩ : ∃ j_ : Int, (wrap64 ((wrap64 (a1 + 1)) + x7_15)) = j_ := ⟨_, rfl⟩
        replace H : (if 0 ≤ (ji33) then ((token_blank.f (bt a0 (ji33))).bind fun t162 => (if t162 = true then ((token_character.f kj15 x6_15).bind fun t163 => (some (t163, wrap64 ((wrap64 ((ji33) + 1)) - a1)))) else ((token_character.f kj15 x6_15).bind fun t164 => (some (t164, wrap64 ((ji33) - a1)))))) else (none)) = some (r1, r2) := by first | (rw [hji33] at H; exact H) | (simp only [hji33] at H ⊢; exact H)
        (try rw [hji33] at c32b0)
        have hji33w : (IntKind.i64.wrap ((wrap64 (a1 + 1)) + x7_15)) = ji33 := (i64_w _).trans hji33
        by_cases c34 : 0 ≤ (ji33)
        ·rw [if_pos c34] at H
         have c34b0 : decide (0 ≤ (ji33)) = true := decide_eq_true c34
         clear c34
         replace H := Option.bind_eq_some_iff.mp H
         obtain ⟨t162, A360, H⟩ := H
         try dsimp only at H
         have A36 := Aside0.mk A360
         clear A360
         by_cases c37 : t162 = true
         ·subst c37
          rw [if_pos rfl] at H
          replace H := Option.bind_eq_some_iff.mp H
          obtain ⟨t163, A380, H⟩ := H
          try dsimp only at H
          have A38 := Aside0.mk A380
          clear A380
          simp only [Option.some.injEq, Prod.mk.injEq] at H
          obtain ⟨rfl, rfl⟩ := H
          have p35 : 0 ≤ ((ji33) : Int) := of_decide_eq_true (by first | (with_reducible assumption) | assumption)
          have q35 : (ji33) < (a0.size : Int) := of_decide_eq_true (by first | (with_reducible assumption) | assumption)
          have hx35 := bt_at a0 (ji33)
          replace p35 := eq_true p35
          replace q35 := eq_true q35
          go_wp2_with (first | (go_at_call 11; (with_reducible refine (token_blank.calls (bt a0 (ji33)) true _ A36.out).mono ?_); rintro e w' ⟨rfl, ⟨nd, rfl⟩⟩) | ((with_reducible refine gate_callee (f := 45) rfl ?_); refine goesL_ (some 90) rfl rfl Try.func45 (by kernel_rfl) rfl #[.int .i64 x6_15] rfl goa_ ?_; (with_reducible refine (token_character.calls kj15 x6_15 t163 _ A38.out).mono ?_); rintro e w39 ⟨rfl, hb⟩; refine ⟨_, rfl, ?_⟩; have n0_ := Aside0.mk (below_step bel_ hb); clear HB; have HB := n0_; clear n0_; clear hb))
          go_ret2
          exact ⟨by first | rfl | (simp [errW_none, errW_some] <;> rfl) | (simp only [← hji33]; first | rfl | (simp [errW_none, errW_some] <;> rfl)) | (simp [*, errW_none, errW_some] <;> rfl), bel_⟩
         ·replace c37 := Bool.eq_false_iff.mpr c37
          subst c37
          rw [if_neg (show ¬ (false = true) by decide)] at H
          replace H := Option.bind_eq_some_iff.mp H
          obtain ⟨t164, A400, H⟩ := H
          try dsimp only at H
          have A40 := Aside0.mk A400
          clear A400
          simp only [Option.some.injEq, Prod.mk.injEq] at H
          obtain ⟨rfl, rfl⟩ := H
          have p35 : 0 ≤ ((ji33) : Int) := of_decide_eq_true (by first | (with_reducible assumption) | assumption)
          have q35 : (ji33) < (a0.size : Int) := of_decide_eq_true (by first | (with_reducible assumption) | assumption)
          have hx35 := bt_at a0 (ji33)
          replace p35 := eq_true p35
          replace q35 := eq_true q35
          go_wp2_with (first | (go_at_call 11; (with_reducible refine (token_blank.calls (bt a0 (ji33)) false _ A36.out).mono ?_); rintro e w' ⟨rfl, ⟨nd, rfl⟩⟩) | ((with_reducible refine gate_callee (f := 45) rfl ?_); refine goesL_ (some 90) rfl rfl Try.func45 (by kernel_rfl) rfl #[.int .i64 x6_15] rfl goa_ ?_; (with_reducible refine (token_character.calls kj15 x6_15 t164 _ A40.out).mono ?_); rintro e w41 ⟨rfl, hb⟩; refine ⟨_, rfl, ?_⟩; have n0_ := Aside0.mk (below_step bel_ hb); clear HB; have HB := n0_; clear n0_; clear hb))
          go_ret2
          exact ⟨by first | rfl | (simp [errW_none, errW_some] <;> rfl) | (simp only [← hji33]; first | rfl | (simp [errW_none, errW_some] <;> rfl)) | (simp [*, errW_none, errW_some] <;> rfl), bel_⟩
        ·rw [if_neg c34] at H
         exact absurd H (by simp)
       ·rw [if_neg c32] at H
        have c32b0 : decide ((wrap64 ((wrap64 (a1 + 1)) + x7_15)) < (a0.size : Int)) = false := decide_eq_false c32
        clear c32
        replace H := Option.bind_eq_some_iff.mp H
        obtain ⟨t165, A420, H⟩ := H
        try dsimp only at H
        have A42 := Aside0.mk A420
        clear A420
        simp only [Option.some.injEq, Prod.mk.injEq] at H
        obtain ⟨rfl, rfl⟩ := H
        go_wp2_with (first | ((with_reducible refine gate_callee (f := 45) rfl ?_); refine goesL_ (some 90) rfl rfl Try.func45 (by kernel_rfl) rfl #[.int .i64 x6_15] rfl goa_ ?_; (with_reducible refine (token_character.calls kj15 x6_15 t165 _ A42.out).mono ?_); rintro e w43 ⟨rfl, hb⟩; refine ⟨_, rfl, ?_⟩; have n0_ := Aside0.mk (below_step bel_ hb); clear HB; have HB := n0_; clear n0_; clear hb))
        go_ret2
        exact ⟨rsl_, bel_⟩

/-! ### token_lexer_quoted_1: function 35 -/
def token_lexer_quoted_1.f (a0 : Int) : Option (Bool) := some (a0 == 10)
set_option maxHeartbeats 8000000 in
set_option maxRecDepth 100000 in
theorem token_lexer_quoted_1.calls (a0 : Int) (r : Bool) (w : World) (h : token_lexer_quoted_1.f a0 = some r) :
  Calls Try.prog 35 #[.int .u8 a0] w fun e w' => e = .returned (.bool r) ∧ Drawn0 w w' := by
 have H : (some (a0 == 10)) = some r := h
 clear h
 obtain rfl := Option.some.inj H
 go_enter Try.func35, Try.ntmps35
 go_wp2
 go_ret
 exact ⟨by first | rfl | (simp; done) | (simp [*]; done), drs_⟩

end Go.Proofs.Ytholgbdfflabhaa.PTk
end
section
namespace Go.Proofs.Ytholgbdfflabhaa.Giv
open Go.RowKit Go.Proofs.YtholgbdfflabhaaW.PrintWords Go.Proofs.YtholgbdfflabhaaW.PrintLast Go.Proofs.YtholgbdfflabhaaW.PrintMore Go.Proofs.Ytholgbdfflabhaa.PTk
open Go.Proofs.Ytholgbdfflabhaa.Opn Go.BigFrame
section
variable {P : Program} {ops : Array Oper} {C : World → Prop} {Q : Act → Prop}
/-- A call of a function that is held in a variable, in a quiet walk. -/
theorem qcall_fn {o : Oper} {rest : List Oper} {a : Act} {f : FuncId} {fn : Func} {t : Tmp} {xs : Array Operand} {ts : Array TypeId} (N : Option Tmp) (hd : o.dst = N) (hf : P.funcs[f]? = some fn) (hname : (fn.name == "runtime.NumGoroutine") = false) (hb : fn.body.isSome = true)
    (args : Array Value) (v : Value) (hw : Region.wanted o (yielded ops a.tmps) = true) (hop : o.op = .call { callee := .value (.tmp t), args := xs, argTypes := ts }) (ht : a.tmps[t]? = some (.func (.func f) #[] #[])) (hargs : xs.map a.eval = args)
    (hc : ∀ w, C w → Calls P f args w fun e w' => e = .returned v ∧ C w') (h : wpQuiet P ops C Q rest (a.put N v)) : wpQuiet P ops C Q (o :: rest) a := by
  subst hd
  refine wpQuiet_step fun K hK => ?_
  rw [if_pos hw]
  refine ⟨v, fun w hC => ?_, hK _ h⟩
  have he := enters_ hf hname hb args w
  have hrun : (execOp a.eval o).run P w = .ok (.enter f args) w := by
    unfold execOp
    simp [hop, resolve, Deferred.ofValue, invoke, Act.eval, hargs, ht, he]
  unfold Oper.quietAt
  rw [hrun]
  exact ⟨rfl, hc w hC⟩
/-- A call of a function, in a quiet walk. -/
theorem qcall {o : Oper} {rest : List Oper} {a : Act} {f : FuncId} {fn : Func} {xs : Array Operand} {ts : Array TypeId} (N : Option Tmp) (hd : o.dst = N) (hf : P.funcs[f]? = some fn) (hname : (fn.name == "runtime.NumGoroutine") = false) (hb : fn.body.isSome = true)
    (args : Array Value) (v : Value) (hw : Region.wanted o (yielded ops a.tmps) = true) (hop : o.op = .call { callee := .value (.func f), args := xs, argTypes := ts }) (hargs : xs.map a.eval = args)
    (hc : ∀ w, C w → Calls P f args w fun e w' => e = .returned v ∧ C w') (h : wpQuiet P ops C Q rest (a.put N v)) : wpQuiet P ops C Q (o :: rest) a := by
  subst hd
  refine wpQuiet_step fun K hK => ?_
  rw [if_pos hw]
  refine ⟨v, fun w hC => ?_, hK _ h⟩
  have he := enters_ hf hname hb args w
  have hrun : (execOp a.eval o).run P w = .ok (.enter f args) w := by
    unfold execOp
    simp [hop, resolve, Deferred.ofValue, invoke, Act.eval, hargs, he]
  unfold Oper.quietAt
  rw [hrun]
  exact ⟨rfl, hc w hC⟩
end
/-- The lexer's block: its bytes, and its place. -/
def Lx (W : World) (g : Nat) (s : ByteArray) (i : Nat) : Prop := W.heap[g]? = some (.cells #[.string s, .int .i64 (i : Int)] 37 (0, 0))
theorem Lx.s {W : World} {g : Nat} {s : ByteArray} {i : Nat} (h : Lx W g s i) : W.cell? ⟨g, 0, none⟩ = some (.string s) := (blk_cell h 0).trans rfl
theorem Lx.i {W : World} {g : Nat} {s : ByteArray} {i : Nat} (h : Lx W g s i) : W.cell? ⟨g, 1, none⟩ = some (.int .i64 (i : Int)) := (blk_cell h 1).trans rfl
theorem Lx.below {W W' : World} {g : Nat} {s : ByteArray} {i : Nat} (h : Lx W g s i) (hb : Below W.heap.size W W') : Lx W' g s i := blk_below h hb
theorem Lx.set {W : World} {g : Nat} {s : ByteArray} {i : Nat} (h : Lx W g s i) (j : Nat) : Lx (W.setCell ⟨g, 1, none⟩ (.int .i64 (j : Int))) g s j := blk_put h 1 _ rfl
theorem Lx.drewN {W : World} {g : Nat} {s : ByteArray} {i : Nat} (h : Lx W g s i) (n : Nat) : Lx (W.drewN n) g s i := h
theorem Lx.drew {W : World} {g : Nat} {s : ByteArray} {i : Nat} (h : Lx W g s i) : Lx W.drew g s i := h
def isF (p : Int → Option Bool) (s : ByteArray) (i : Nat) : Option Bool := if i < s.size then p (bt s (i : Nat)) else some false
theorem wrapE (i k : Nat) (h : i + k ≤ 9223372036854775807) : IntKind.i64.wrap ((i : Int) + (k : Int)) = ((i + k : Nat) : Int) := by
  rw [i64_w]
  unfold wrap64
  omega
set_option maxHeartbeats 8000000 in
set_option maxRecDepth 100000 in
theorem is_minus0 (s : ByteArray) (g i j : Nat) (hs : s.size ≤ 140737488351232) (hw : IntKind.i64.wrap ((i : Int)) = (j : Int)) (r : Bool) (w : World) (h : Lx w g s i) (hf : isF token_lexer_begins_1.f s j = some r) :
    Calls Try.prog 15 #[.pointer (some ⟨g, 0, none⟩), .int .i64 0, .func (.func 26) #[] #[]] w fun e w' => e = .returned (.bool r) ∧ Drawn0 w w' := by
  have hu := Try.underlying37
  have hc0 := h.s
  have hc1 := h.i
  unfold isF at hf
  by_cases hlt : j < s.size
  · rw [if_pos hlt] at hf
    have A1 := Aside0.mk hf
    have q0 : (0 ≤ (j : Int)) = True := eq_true (by omega)
    have q1 : ((j : Int) < (s.size : Int)) = True := eq_true (by omega)
    have q2 : decide ((j : Int) < (s.size : Int)) = true := decide_eq_true (by omega)
    have q3 : decide (j < s.size) = true := decide_eq_true hlt
    have q4 : (j < s.size) = True := eq_true hlt
    have hx : ∀ h : j < s.size, ((s[j].toNat : Nat) : Int) = bt s (j : Nat) := fun h => bt_at s (j : Int) (by simpa using h)
    clear hf hlt hs h
    go_enter Try.func15, Try.ntmps15
    go_wp2
    refine wp_region_quiet_lit (by kernel_rfl) (by kernel_rfl) ?_
    repeat (go_big_quiet_step (fail))
    refine qcall_fn (some 32) rfl Try.func26 (by kernel_rfl) rfl #[.int .u8 (bt s (j : Nat))] (.bool r) (by rfl) rfl (by rfl) goa_ (fun w1 hw1 => ?_) ?_
    · obtain ⟨n1, rfl⟩ := hw1
      refine (token_lexer_begins_1.calls _ _ _ A1.out).mono ?_
      rintro e w2 ⟨rfl, ⟨m1, rfl⟩⟩
      exact ⟨rfl, ⟨n1 + m1, by simp [World.drewN, Nat.add_assoc]⟩⟩
    simp only [Act.put, List.setIfInBounds_toArray, List.set_cons_zero, List.set_cons_succ]
    repeat (go_big_quiet_step (fail))
    refine wpQuiet_nil ?_
    intro _ hw'
    obtain ⟨nq, hw''⟩ := hw'
    subst hw''
    go_wp2
    go_ret
    exact ⟨rfl, drs_⟩
  · rw [if_neg hlt] at hf
    obtain rfl := Option.some.inj hf
    have q1 : ((j : Int) < (s.size : Int)) = False := eq_false (by omega)
    have q2 : decide ((j : Int) < (s.size : Int)) = false := decide_eq_false (by omega)
    have q3 : decide (j < s.size) = false := decide_eq_false hlt
    have q4 : (j < s.size) = False := eq_false hlt
    clear hf hlt hs h
    go_enter Try.func15, Try.ntmps15
    go_wp2
    refine wp_region_quiet_lit (by kernel_rfl) (by kernel_rfl) ?_
    repeat (go_big_quiet_step (fail))
    refine wpQuiet_nil ?_
    intro _ hw'
    obtain ⟨nq, hw''⟩ := hw'
    subst hw''
    go_wp2
    go_ret
    exact ⟨rfl, drs_⟩
set_option maxHeartbeats 8000000 in
set_option maxRecDepth 100000 in
theorem is_minus1 (s : ByteArray) (g i j : Nat) (hs : s.size ≤ 140737488351232) (hw : IntKind.i64.wrap ((i : Int) + 1) = (j : Int)) (r : Bool) (w : World) (h : Lx w g s i) (hf : isF token_lexer_begins_1.f s j = some r) :
    Calls Try.prog 15 #[.pointer (some ⟨g, 0, none⟩), .int .i64 1, .func (.func 26) #[] #[]] w fun e w' => e = .returned (.bool r) ∧ Drawn0 w w' := by
  have hu := Try.underlying37
  have hc0 := h.s
  have hc1 := h.i
  unfold isF at hf
  by_cases hlt : j < s.size
  · rw [if_pos hlt] at hf
    have A1 := Aside0.mk hf
    have q0 : (0 ≤ (j : Int)) = True := eq_true (by omega)
    have q1 : ((j : Int) < (s.size : Int)) = True := eq_true (by omega)
    have q2 : decide ((j : Int) < (s.size : Int)) = true := decide_eq_true (by omega)
    have q3 : decide (j < s.size) = true := decide_eq_true hlt
    have q4 : (j < s.size) = True := eq_true hlt
    have hx : ∀ h : j < s.size, ((s[j].toNat : Nat) : Int) = bt s (j : Nat) := fun h => bt_at s (j : Int) (by simpa using h)
    clear hf hlt hs h
    go_enter Try.func15, Try.ntmps15
    go_wp2
    refine wp_region_quiet_lit (by kernel_rfl) (by kernel_rfl) ?_
    repeat (go_big_quiet_step (fail))
    refine qcall_fn (some 32) rfl Try.func26 (by kernel_rfl) rfl #[.int .u8 (bt s (j : Nat))] (.bool r) (by rfl) rfl (by rfl) goa_ (fun w1 hw1 => ?_) ?_
    · obtain ⟨n1, rfl⟩ := hw1
      refine (token_lexer_begins_1.calls _ _ _ A1.out).mono ?_
      rintro e w2 ⟨rfl, ⟨m1, rfl⟩⟩
      exact ⟨rfl, ⟨n1 + m1, by simp [World.drewN, Nat.add_assoc]⟩⟩
    simp only [Act.put, List.setIfInBounds_toArray, List.set_cons_zero, List.set_cons_succ]
    repeat (go_big_quiet_step (fail))
    refine wpQuiet_nil ?_
    intro _ hw'
    obtain ⟨nq, hw''⟩ := hw'
    subst hw''
    go_wp2
    go_ret
    exact ⟨rfl, drs_⟩
  · rw [if_neg hlt] at hf
    obtain rfl := Option.some.inj hf
    have q1 : ((j : Int) < (s.size : Int)) = False := eq_false (by omega)
    have q2 : decide ((j : Int) < (s.size : Int)) = false := decide_eq_false (by omega)
    have q3 : decide (j < s.size) = false := decide_eq_false hlt
    have q4 : (j < s.size) = False := eq_false hlt
    clear hf hlt hs h
    go_enter Try.func15, Try.ntmps15
    go_wp2
    refine wp_region_quiet_lit (by kernel_rfl) (by kernel_rfl) ?_
    repeat (go_big_quiet_step (fail))
    refine wpQuiet_nil ?_
    intro _ hw'
    obtain ⟨nq, hw''⟩ := hw'
    subst hw''
    go_wp2
    go_ret
    exact ⟨rfl, drs_⟩
set_option maxHeartbeats 8000000 in
set_option maxRecDepth 100000 in
theorem is_letter0 (s : ByteArray) (g i j : Nat) (hs : s.size ≤ 140737488351232) (hw : IntKind.i64.wrap ((i : Int)) = (j : Int)) (r : Bool) (w : World) (h : Lx w g s i) (hf : isF token_Letter.f s j = some r) :
    Calls Try.prog 15 #[.pointer (some ⟨g, 0, none⟩), .int .i64 0, .func (.func 27) #[] #[]] w fun e w' => e = .returned (.bool r) ∧ Drawn0 w w' := by
  have hu := Try.underlying37
  have hc0 := h.s
  have hc1 := h.i
  unfold isF at hf
  by_cases hlt : j < s.size
  · rw [if_pos hlt] at hf
    have A1 := Aside0.mk hf
    have q0 : (0 ≤ (j : Int)) = True := eq_true (by omega)
    have q1 : ((j : Int) < (s.size : Int)) = True := eq_true (by omega)
    have q2 : decide ((j : Int) < (s.size : Int)) = true := decide_eq_true (by omega)
    have q3 : decide (j < s.size) = true := decide_eq_true hlt
    have q4 : (j < s.size) = True := eq_true hlt
    have hx : ∀ h : j < s.size, ((s[j].toNat : Nat) : Int) = bt s (j : Nat) := fun h => bt_at s (j : Int) (by simpa using h)
    clear hf hlt hs h
    go_enter Try.func15, Try.ntmps15
    go_wp2
    refine wp_region_quiet_lit (by kernel_rfl) (by kernel_rfl) ?_
    repeat (go_big_quiet_step (fail))
    refine qcall_fn (some 32) rfl Try.func27 (by kernel_rfl) rfl #[.int .u8 (bt s (j : Nat))] (.bool r) (by rfl) rfl (by rfl) goa_ (fun w1 hw1 => ?_) ?_
    · obtain ⟨n1, rfl⟩ := hw1
      refine (token_Letter.calls _ _ _ A1.out).mono ?_
      rintro e w2 ⟨rfl, ⟨m1, rfl⟩⟩
      exact ⟨rfl, ⟨n1 + m1, by simp [World.drewN, Nat.add_assoc]⟩⟩
    simp only [Act.put, List.setIfInBounds_toArray, List.set_cons_zero, List.set_cons_succ]
    repeat (go_big_quiet_step (fail))
    refine wpQuiet_nil ?_
    intro _ hw'
    obtain ⟨nq, hw''⟩ := hw'
    subst hw''
    go_wp2
    go_ret
    exact ⟨rfl, drs_⟩
  · rw [if_neg hlt] at hf
    obtain rfl := Option.some.inj hf
    have q1 : ((j : Int) < (s.size : Int)) = False := eq_false (by omega)
    have q2 : decide ((j : Int) < (s.size : Int)) = false := decide_eq_false (by omega)
    have q3 : decide (j < s.size) = false := decide_eq_false hlt
    have q4 : (j < s.size) = False := eq_false hlt
    clear hf hlt hs h
    go_enter Try.func15, Try.ntmps15
    go_wp2
    refine wp_region_quiet_lit (by kernel_rfl) (by kernel_rfl) ?_
    repeat (go_big_quiet_step (fail))
    refine wpQuiet_nil ?_
    intro _ hw'
    obtain ⟨nq, hw''⟩ := hw'
    subst hw''
    go_wp2
    go_ret
    exact ⟨rfl, drs_⟩
set_option maxHeartbeats 8000000 in
set_option maxRecDepth 100000 in
theorem is_letter1 (s : ByteArray) (g i j : Nat) (hs : s.size ≤ 140737488351232) (hw : IntKind.i64.wrap ((i : Int) + 1) = (j : Int)) (r : Bool) (w : World) (h : Lx w g s i) (hf : isF token_Letter.f s j = some r) :
    Calls Try.prog 15 #[.pointer (some ⟨g, 0, none⟩), .int .i64 1, .func (.func 27) #[] #[]] w fun e w' => e = .returned (.bool r) ∧ Drawn0 w w' := by
  have hu := Try.underlying37
  have hc0 := h.s
  have hc1 := h.i
  unfold isF at hf
  by_cases hlt : j < s.size
  · rw [if_pos hlt] at hf
    have A1 := Aside0.mk hf
    have q0 : (0 ≤ (j : Int)) = True := eq_true (by omega)
    have q1 : ((j : Int) < (s.size : Int)) = True := eq_true (by omega)
    have q2 : decide ((j : Int) < (s.size : Int)) = true := decide_eq_true (by omega)
    have q3 : decide (j < s.size) = true := decide_eq_true hlt
    have q4 : (j < s.size) = True := eq_true hlt
    have hx : ∀ h : j < s.size, ((s[j].toNat : Nat) : Int) = bt s (j : Nat) := fun h => bt_at s (j : Int) (by simpa using h)
    clear hf hlt hs h
    go_enter Try.func15, Try.ntmps15
    go_wp2
    refine wp_region_quiet_lit (by kernel_rfl) (by kernel_rfl) ?_
    repeat (go_big_quiet_step (fail))
    refine qcall_fn (some 32) rfl Try.func27 (by kernel_rfl) rfl #[.int .u8 (bt s (j : Nat))] (.bool r) (by rfl) rfl (by rfl) goa_ (fun w1 hw1 => ?_) ?_
    · obtain ⟨n1, rfl⟩ := hw1
      refine (token_Letter.calls _ _ _ A1.out).mono ?_
      rintro e w2 ⟨rfl, ⟨m1, rfl⟩⟩
      exact ⟨rfl, ⟨n1 + m1, by simp [World.drewN, Nat.add_assoc]⟩⟩
    simp only [Act.put, List.setIfInBounds_toArray, List.set_cons_zero, List.set_cons_succ]
    repeat (go_big_quiet_step (fail))
    refine wpQuiet_nil ?_
    intro _ hw'
    obtain ⟨nq, hw''⟩ := hw'
    subst hw''
    go_wp2
    go_ret
    exact ⟨rfl, drs_⟩
  · rw [if_neg hlt] at hf
    obtain rfl := Option.some.inj hf
    have q1 : ((j : Int) < (s.size : Int)) = False := eq_false (by omega)
    have q2 : decide ((j : Int) < (s.size : Int)) = false := decide_eq_false (by omega)
    have q3 : decide (j < s.size) = false := decide_eq_false hlt
    have q4 : (j < s.size) = False := eq_false hlt
    clear hf hlt hs h
    go_enter Try.func15, Try.ntmps15
    go_wp2
    refine wp_region_quiet_lit (by kernel_rfl) (by kernel_rfl) ?_
    repeat (go_big_quiet_step (fail))
    refine wpQuiet_nil ?_
    intro _ hw'
    obtain ⟨nq, hw''⟩ := hw'
    subst hw''
    go_wp2
    go_ret
    exact ⟨rfl, drs_⟩
set_option maxHeartbeats 8000000 in
set_option maxRecDepth 100000 in
theorem is_inner0 (s : ByteArray) (g i j : Nat) (hs : s.size ≤ 140737488351232) (hw : IntKind.i64.wrap ((i : Int)) = (j : Int)) (r : Bool) (w : World) (h : Lx w g s i) (hf : isF token_lexer_ident_1.f s j = some r) :
    Calls Try.prog 15 #[.pointer (some ⟨g, 0, none⟩), .int .i64 0, .func (.func 29) #[] #[]] w fun e w' => e = .returned (.bool r) ∧ Drawn0 w w' := by
  have hu := Try.underlying37
  have hc0 := h.s
  have hc1 := h.i
  unfold isF at hf
  by_cases hlt : j < s.size
  · rw [if_pos hlt] at hf
    have A1 := Aside0.mk hf
    have q0 : (0 ≤ (j : Int)) = True := eq_true (by omega)
    have q1 : ((j : Int) < (s.size : Int)) = True := eq_true (by omega)
    have q2 : decide ((j : Int) < (s.size : Int)) = true := decide_eq_true (by omega)
    have q3 : decide (j < s.size) = true := decide_eq_true hlt
    have q4 : (j < s.size) = True := eq_true hlt
    have hx : ∀ h : j < s.size, ((s[j].toNat : Nat) : Int) = bt s (j : Nat) := fun h => bt_at s (j : Int) (by simpa using h)
    clear hf hlt hs h
    go_enter Try.func15, Try.ntmps15
    go_wp2
    refine wp_region_quiet_lit (by kernel_rfl) (by kernel_rfl) ?_
    repeat (go_big_quiet_step (fail))
    refine qcall_fn (some 32) rfl Try.func29 (by kernel_rfl) rfl #[.int .u8 (bt s (j : Nat))] (.bool r) (by rfl) rfl (by rfl) goa_ (fun w1 hw1 => ?_) ?_
    · obtain ⟨n1, rfl⟩ := hw1
      refine (token_lexer_ident_1.calls _ _ _ A1.out).mono ?_
      rintro e w2 ⟨rfl, ⟨m1, rfl⟩⟩
      exact ⟨rfl, ⟨n1 + m1, by simp [World.drewN, Nat.add_assoc]⟩⟩
    simp only [Act.put, List.setIfInBounds_toArray, List.set_cons_zero, List.set_cons_succ]
    repeat (go_big_quiet_step (fail))
    refine wpQuiet_nil ?_
    intro _ hw'
    obtain ⟨nq, hw''⟩ := hw'
    subst hw''
    go_wp2
    go_ret
    exact ⟨rfl, drs_⟩
  · rw [if_neg hlt] at hf
    obtain rfl := Option.some.inj hf
    have q1 : ((j : Int) < (s.size : Int)) = False := eq_false (by omega)
    have q2 : decide ((j : Int) < (s.size : Int)) = false := decide_eq_false (by omega)
    have q3 : decide (j < s.size) = false := decide_eq_false hlt
    have q4 : (j < s.size) = False := eq_false hlt
    clear hf hlt hs h
    go_enter Try.func15, Try.ntmps15
    go_wp2
    refine wp_region_quiet_lit (by kernel_rfl) (by kernel_rfl) ?_
    repeat (go_big_quiet_step (fail))
    refine wpQuiet_nil ?_
    intro _ hw'
    obtain ⟨nq, hw''⟩ := hw'
    subst hw''
    go_wp2
    go_ret
    exact ⟨rfl, drs_⟩
set_option maxHeartbeats 8000000 in
set_option maxRecDepth 100000 in
theorem is_pct0 (s : ByteArray) (g i j : Nat) (hs : s.size ≤ 140737488351232) (hw : IntKind.i64.wrap ((i : Int)) = (j : Int)) (r : Bool) (w : World) (h : Lx w g s i) (hf : isF token_lexer_word_1.f s j = some r) :
    Calls Try.prog 15 #[.pointer (some ⟨g, 0, none⟩), .int .i64 0, .func (.func 16) #[] #[]] w fun e w' => e = .returned (.bool r) ∧ Drawn0 w w' := by
  have hu := Try.underlying37
  have hc0 := h.s
  have hc1 := h.i
  unfold isF at hf
  by_cases hlt : j < s.size
  · rw [if_pos hlt] at hf
    have A1 := Aside0.mk hf
    have q0 : (0 ≤ (j : Int)) = True := eq_true (by omega)
    have q1 : ((j : Int) < (s.size : Int)) = True := eq_true (by omega)
    have q2 : decide ((j : Int) < (s.size : Int)) = true := decide_eq_true (by omega)
    have q3 : decide (j < s.size) = true := decide_eq_true hlt
    have q4 : (j < s.size) = True := eq_true hlt
    have hx : ∀ h : j < s.size, ((s[j].toNat : Nat) : Int) = bt s (j : Nat) := fun h => bt_at s (j : Int) (by simpa using h)
    clear hf hlt hs h
    go_enter Try.func15, Try.ntmps15
    go_wp2
    refine wp_region_quiet_lit (by kernel_rfl) (by kernel_rfl) ?_
    repeat (go_big_quiet_step (fail))
    refine qcall_fn (some 32) rfl Try.func16 (by kernel_rfl) rfl #[.int .u8 (bt s (j : Nat))] (.bool r) (by rfl) rfl (by rfl) goa_ (fun w1 hw1 => ?_) ?_
    · obtain ⟨n1, rfl⟩ := hw1
      refine (token_lexer_word_1.calls _ _ _ A1.out).mono ?_
      rintro e w2 ⟨rfl, ⟨m1, rfl⟩⟩
      exact ⟨rfl, ⟨n1 + m1, by simp [World.drewN, Nat.add_assoc]⟩⟩
    simp only [Act.put, List.setIfInBounds_toArray, List.set_cons_zero, List.set_cons_succ]
    repeat (go_big_quiet_step (fail))
    refine wpQuiet_nil ?_
    intro _ hw'
    obtain ⟨nq, hw''⟩ := hw'
    subst hw''
    go_wp2
    go_ret
    exact ⟨rfl, drs_⟩
  · rw [if_neg hlt] at hf
    obtain rfl := Option.some.inj hf
    have q1 : ((j : Int) < (s.size : Int)) = False := eq_false (by omega)
    have q2 : decide ((j : Int) < (s.size : Int)) = false := decide_eq_false (by omega)
    have q3 : decide (j < s.size) = false := decide_eq_false hlt
    have q4 : (j < s.size) = False := eq_false hlt
    clear hf hlt hs h
    go_enter Try.func15, Try.ntmps15
    go_wp2
    refine wp_region_quiet_lit (by kernel_rfl) (by kernel_rfl) ?_
    repeat (go_big_quiet_step (fail))
    refine wpQuiet_nil ?_
    intro _ hw'
    obtain ⟨nq, hw''⟩ := hw'
    subst hw''
    go_wp2
    go_ret
    exact ⟨rfl, drs_⟩
set_option maxHeartbeats 8000000 in
set_option maxRecDepth 100000 in
theorem is_paren0 (s : ByteArray) (g i j : Nat) (hs : s.size ≤ 140737488351232) (hw : IntKind.i64.wrap ((i : Int)) = (j : Int)) (r : Bool) (w : World) (h : Lx w g s i) (hf : isF token_lexer_word_2.f s j = some r) :
    Calls Try.prog 15 #[.pointer (some ⟨g, 0, none⟩), .int .i64 0, .func (.func 19) #[] #[]] w fun e w' => e = .returned (.bool r) ∧ Drawn0 w w' := by
  have hu := Try.underlying37
  have hc0 := h.s
  have hc1 := h.i
  unfold isF at hf
  by_cases hlt : j < s.size
  · rw [if_pos hlt] at hf
    have A1 := Aside0.mk hf
    have q0 : (0 ≤ (j : Int)) = True := eq_true (by omega)
    have q1 : ((j : Int) < (s.size : Int)) = True := eq_true (by omega)
    have q2 : decide ((j : Int) < (s.size : Int)) = true := decide_eq_true (by omega)
    have q3 : decide (j < s.size) = true := decide_eq_true hlt
    have q4 : (j < s.size) = True := eq_true hlt
    have hx : ∀ h : j < s.size, ((s[j].toNat : Nat) : Int) = bt s (j : Nat) := fun h => bt_at s (j : Int) (by simpa using h)
    clear hf hlt hs h
    go_enter Try.func15, Try.ntmps15
    go_wp2
    refine wp_region_quiet_lit (by kernel_rfl) (by kernel_rfl) ?_
    repeat (go_big_quiet_step (fail))
    refine qcall_fn (some 32) rfl Try.func19 (by kernel_rfl) rfl #[.int .u8 (bt s (j : Nat))] (.bool r) (by rfl) rfl (by rfl) goa_ (fun w1 hw1 => ?_) ?_
    · obtain ⟨n1, rfl⟩ := hw1
      refine (token_lexer_word_2.calls _ _ _ A1.out).mono ?_
      rintro e w2 ⟨rfl, ⟨m1, rfl⟩⟩
      exact ⟨rfl, ⟨n1 + m1, by simp [World.drewN, Nat.add_assoc]⟩⟩
    simp only [Act.put, List.setIfInBounds_toArray, List.set_cons_zero, List.set_cons_succ]
    repeat (go_big_quiet_step (fail))
    refine wpQuiet_nil ?_
    intro _ hw'
    obtain ⟨nq, hw''⟩ := hw'
    subst hw''
    go_wp2
    go_ret
    exact ⟨rfl, drs_⟩
  · rw [if_neg hlt] at hf
    obtain rfl := Option.some.inj hf
    have q1 : ((j : Int) < (s.size : Int)) = False := eq_false (by omega)
    have q2 : decide ((j : Int) < (s.size : Int)) = false := decide_eq_false (by omega)
    have q3 : decide (j < s.size) = false := decide_eq_false hlt
    have q4 : (j < s.size) = False := eq_false hlt
    clear hf hlt hs h
    go_enter Try.func15, Try.ntmps15
    go_wp2
    refine wp_region_quiet_lit (by kernel_rfl) (by kernel_rfl) ?_
    repeat (go_big_quiet_step (fail))
    refine wpQuiet_nil ?_
    intro _ hw'
    obtain ⟨nq, hw''⟩ := hw'
    subst hw''
    go_wp2
    go_ret
    exact ⟨rfl, drs_⟩
set_option maxHeartbeats 8000000 in
set_option maxRecDepth 100000 in
theorem is_nl0 (s : ByteArray) (g i j : Nat) (hs : s.size ≤ 140737488351232) (hw : IntKind.i64.wrap ((i : Int)) = (j : Int)) (r : Bool) (w : World) (h : Lx w g s i) (hf : isF token_lexer_quoted_1.f s j = some r) :
    Calls Try.prog 15 #[.pointer (some ⟨g, 0, none⟩), .int .i64 0, .func (.func 35) #[] #[]] w fun e w' => e = .returned (.bool r) ∧ Drawn0 w w' := by
  have hu := Try.underlying37
  have hc0 := h.s
  have hc1 := h.i
  unfold isF at hf
  by_cases hlt : j < s.size
  · rw [if_pos hlt] at hf
    have A1 := Aside0.mk hf
    have q0 : (0 ≤ (j : Int)) = True := eq_true (by omega)
    have q1 : ((j : Int) < (s.size : Int)) = True := eq_true (by omega)
    have q2 : decide ((j : Int) < (s.size : Int)) = true := decide_eq_true (by omega)
    have q3 : decide (j < s.size) = true := decide_eq_true hlt
    have q4 : (j < s.size) = True := eq_true hlt
    have hx : ∀ h : j < s.size, ((s[j].toNat : Nat) : Int) = bt s (j : Nat) := fun h => bt_at s (j : Int) (by simpa using h)
    clear hf hlt hs h
    go_enter Try.func15, Try.ntmps15
    go_wp2
    refine wp_region_quiet_lit (by kernel_rfl) (by kernel_rfl) ?_
    repeat (go_big_quiet_step (fail))
    refine qcall_fn (some 32) rfl Try.func35 (by kernel_rfl) rfl #[.int .u8 (bt s (j : Nat))] (.bool r) (by rfl) rfl (by rfl) goa_ (fun w1 hw1 => ?_) ?_
    · obtain ⟨n1, rfl⟩ := hw1
      refine (token_lexer_quoted_1.calls _ _ _ A1.out).mono ?_
      rintro e w2 ⟨rfl, ⟨m1, rfl⟩⟩
      exact ⟨rfl, ⟨n1 + m1, by simp [World.drewN, Nat.add_assoc]⟩⟩
    simp only [Act.put, List.setIfInBounds_toArray, List.set_cons_zero, List.set_cons_succ]
    repeat (go_big_quiet_step (fail))
    refine wpQuiet_nil ?_
    intro _ hw'
    obtain ⟨nq, hw''⟩ := hw'
    subst hw''
    go_wp2
    go_ret
    exact ⟨rfl, drs_⟩
  · rw [if_neg hlt] at hf
    obtain rfl := Option.some.inj hf
    have q1 : ((j : Int) < (s.size : Int)) = False := eq_false (by omega)
    have q2 : decide ((j : Int) < (s.size : Int)) = false := decide_eq_false (by omega)
    have q3 : decide (j < s.size) = false := decide_eq_false hlt
    have q4 : (j < s.size) = False := eq_false hlt
    clear hf hlt hs h
    go_enter Try.func15, Try.ntmps15
    go_wp2
    refine wp_region_quiet_lit (by kernel_rfl) (by kernel_rfl) ?_
    repeat (go_big_quiet_step (fail))
    refine wpQuiet_nil ?_
    intro _ hw'
    obtain ⟨nq, hw''⟩ := hw'
    subst hw''
    go_wp2
    go_ret
    exact ⟨rfl, drs_⟩
set_option maxHeartbeats 8000000 in
set_option maxRecDepth 100000 in
theorem is_feed1 (s : ByteArray) (g i j : Nat) (hs : s.size ≤ 140737488351232) (hw : IntKind.i64.wrap ((i : Int) + 1) = (j : Int)) (r : Bool) (w : World) (h : Lx w g s i) (hf : isF token_feed.f s j = some r) :
    Calls Try.prog 15 #[.pointer (some ⟨g, 0, none⟩), .int .i64 1, .func (.func 22) #[] #[]] w fun e w' => e = .returned (.bool r) ∧ Drawn0 w w' := by
  have hu := Try.underlying37
  have hc0 := h.s
  have hc1 := h.i
  unfold isF at hf
  by_cases hlt : j < s.size
  · rw [if_pos hlt] at hf
    have A1 := Aside0.mk hf
    have q0 : (0 ≤ (j : Int)) = True := eq_true (by omega)
    have q1 : ((j : Int) < (s.size : Int)) = True := eq_true (by omega)
    have q2 : decide ((j : Int) < (s.size : Int)) = true := decide_eq_true (by omega)
    have q3 : decide (j < s.size) = true := decide_eq_true hlt
    have q4 : (j < s.size) = True := eq_true hlt
    have hx : ∀ h : j < s.size, ((s[j].toNat : Nat) : Int) = bt s (j : Nat) := fun h => bt_at s (j : Int) (by simpa using h)
    clear hf hlt hs h
    go_enter Try.func15, Try.ntmps15
    go_wp2
    refine wp_region_quiet_lit (by kernel_rfl) (by kernel_rfl) ?_
    repeat (go_big_quiet_step (fail))
    refine qcall_fn (some 32) rfl Try.func22 (by kernel_rfl) rfl #[.int .u8 (bt s (j : Nat))] (.bool r) (by rfl) rfl (by rfl) goa_ (fun w1 hw1 => ?_) ?_
    · obtain ⟨n1, rfl⟩ := hw1
      refine (token_feed.calls _ _ _ A1.out).mono ?_
      rintro e w2 ⟨rfl, ⟨m1, rfl⟩⟩
      exact ⟨rfl, ⟨n1 + m1, by simp [World.drewN, Nat.add_assoc]⟩⟩
    simp only [Act.put, List.setIfInBounds_toArray, List.set_cons_zero, List.set_cons_succ]
    repeat (go_big_quiet_step (fail))
    refine wpQuiet_nil ?_
    intro _ hw'
    obtain ⟨nq, hw''⟩ := hw'
    subst hw''
    go_wp2
    go_ret
    exact ⟨rfl, drs_⟩
  · rw [if_neg hlt] at hf
    obtain rfl := Option.some.inj hf
    have q1 : ((j : Int) < (s.size : Int)) = False := eq_false (by omega)
    have q2 : decide ((j : Int) < (s.size : Int)) = false := decide_eq_false (by omega)
    have q3 : decide (j < s.size) = false := decide_eq_false hlt
    have q4 : (j < s.size) = False := eq_false hlt
    clear hf hlt hs h
    go_enter Try.func15, Try.ntmps15
    go_wp2
    refine wp_region_quiet_lit (by kernel_rfl) (by kernel_rfl) ?_
    repeat (go_big_quiet_step (fail))
    refine wpQuiet_nil ?_
    intro _ hw'
    obtain ⟨nq, hw''⟩ := hw'
    subst hw''
    go_wp2
    go_ret
    exact ⟨rfl, drs_⟩
end Go.Proofs.Ytholgbdfflabhaa.Giv
end
section
namespace Go.Proofs.Ytholgbdfflabhaa.Giv
open Go.RowKit Go.Proofs.YtholgbdfflabhaaW.PrintWords Go.Proofs.YtholgbdfflabhaaW.PrintLast Go.Proofs.YtholgbdfflabhaaW.PrintMore Go.Proofs.Ytholgbdfflabhaa.PTk
open Go.Proofs.Ytholgbdfflabhaa.Opn Go.BigFrame
/-- Does an escape stand at a place (that is not of a byte 0)? -/
def escF (k : Nat) (s : ByteArray) (j : Nat) : Option Bool := (token_Hex.f k s (j : Int)).bind fun t => if t.2 > 0 then (if j + 1 < s.size then some (bt s ((j + 1 : Nat) : Int) != 0) else none) else some false
theorem escF.mono : ∀ s j k, LeO (escF k s j) (escF (k + 1) s j) := by
  intro s j k
  unfold escF
  repeat' first
      | (with_reducible exact token_Hex.mono _ _ _)
      | (with_reducible exact LeO.refl _)
      | (with_reducible exact LeO.none _)
      | (with_reducible refine LeO.ite ?_ ?_)
      | (with_reducible refine LeO.bind ?_ (fun _ => ?_))
theorem below_drewN0 {B : Nat} {a w : World} (h : Below B a w) (n : Nat) : Below B a (w.drewN n) := h.trans ⟨rfl, rfl, rfl, Nat.le_refl _, fun _ _ => rfl⟩
def lexer_escape.T1 : Bool × List (List Nat × List Nat) := (true, [([], []), ([0], [0]), ([1], [1]), ([2], [2]), ([], []), ([4], [4]), ([5], [5]), ([6], [6]), ([], []), ([7, 8], [7, 8]), ([3, 9], [3, 9]), ([10], [10]), ([11], [11]), ([11], [11]), ([12, 10, 0, 1, 2, 3, 4, 5, 6, 7, 8, 9, 10, 11, 12], [12]), ([13, 14, 0, 1, 2, 3, 4, 5, 6, 7, 8, 9, 10, 11, 12, 13, 14], [13])])
def lexer_escape.B1 : List Nat := [0, 1, 3, 7, 0, 16, 48, 112, 0, 496, 1023, 2047, 4095, 4095, 8191, 32767]
theorem lexer_escape.tab1 : rtab .any (opsOf Try.f28 1) = lexer_escape.T1 := by kernel_rfl
theorem lexer_escape.bits1 : waitsOk lexer_escape.T1.2 lexer_escape.B1 = true := by kernel_rfl
set_option maxHeartbeats 8000000 in
set_option maxRecDepth 100000 in
theorem escape_0 (k : Nat) (s : ByteArray) (g i j : Nat) (hs : s.size ≤ 140737488351232) (hj : j ≤ 140737488351300) (hw : IntKind.i64.wrap ((i : Int)) = (j : Int)) (r : Bool) (w : World) (h : Lx w g s i) (hf : escF k s j = some r) :
    Calls Try.prog 28 #[.pointer (some ⟨g, 0, none⟩), .int .i64 0] w fun e w' => e = .returned (.bool r) ∧ Below w.heap.size w w' := by
  have hu := Try.underlying37
  unfold escF at hf
  obtain ⟨⟨x, n⟩, hx0, hf⟩ := Option.bind_eq_some_iff.mp hf
  have A1 := Aside0.mk hx0
  have H1 := Aside0.mk h.drew
  have HB1 := Aside0.mk (below_drew1 (Below.refl w.heap.size w))
  have hc0 := h.s
  have hc1 := h.i
  clear hx0 h
  go_enter Try.func28, Try.ntmps28
  go_wp2
  refine start_ (n := 16) (S := (fun w' => w'.cell? ⟨g, 0, none⟩ = some (.string s) ∧ w'.cell? ⟨g, 1, none⟩ = some (.int .i64 (i : Int)))) (ds := []) #[false, false, false, false, false, false, false, false, false, false, false, false, false, false, false, false] (by kernel_rfl) rfl rfl ⟨H1.out.s, H1.out.i⟩ (fun hHeld => ?_)
  refine with_tabW lexer_escape.tab1 lexer_escape.bits1 (fun HT_ HW_ => ?_)
  generalize w.drew = w4 at H1 HB1 hHeld ⊢
  refine pus_ 0 (some 8) #[true, false, false, false, false, false, false, false, false, false, false, false, false, false, false, false] rfl rfl HT_.out ?_
  refine pus_ 1 (some 9) #[true, true, false, false, false, false, false, false, false, false, false, false, false, false, false, false] rfl rfl HT_.out ?_
  refine pus_ 2 (some 10) #[true, true, true, false, false, false, false, false, false, false, false, false, false, false, false, false] rfl rfl HT_.out ?_
  refine tas_ 3 (some 11) #[true, true, true, true, false, false, false, false, false, false, false, false, false, false, false, false] rfl rfl HT_.out HW_.out hHeld ?_
  refine pus_ 4 (some 12) #[true, true, true, true, true, false, false, false, false, false, false, false, false, false, false, false] rfl rfl HT_.out ?_
  refine pus_ 5 (some 13) #[true, true, true, true, true, true, false, false, false, false, false, false, false, false, false, false] rfl rfl HT_.out ?_
  refine pus_ 6 (some 14) #[true, true, true, true, true, true, true, false, false, false, false, false, false, false, false, false] rfl rfl HT_.out ?_
  refine tas_ 7 (some 15) #[true, true, true, true, true, true, true, true, false, false, false, false, false, false, false, false] rfl rfl HT_.out HW_.out hHeld ?_
  refine pus_ 8 (some 16) #[true, true, true, true, true, true, true, true, true, false, false, false, false, false, false, false] rfl rfl HT_.out ?_
  refine pus_ 9 (some 17) #[true, true, true, true, true, true, true, true, true, true, false, false, false, false, false, false] rfl rfl HT_.out ?_
  refine one_ (i := 10) (N := (some 18)) #[true, true, true, true, true, true, true, true, true, true, true, false, false, false, false, false] rfl rfl (one_of HT_.out (by kernel_rfl)) (by decide) (fun K hK => ?_)
  refine goes_ Try.func32 (by kernel_rfl) rfl #[.string s, .int .i64 (j : Int)] (by rfl) rfl rfl goa_ ?_
  with_reducible refine (token_Hex.calls k s (j : Int) x n _ A1.out).mono ?_
  rintro e w5 ⟨rfl, hb⟩
  refine ⟨_, rfl, ?_⟩
  have H2 := Aside0.mk (H1.out.below hb)
  have HB2 := Aside0.mk (below_step HB1.out hb)
  clear hb
  refine hK.out _ _ ⟨H2.out.s, H2.out.i⟩ (fun hHeld => ?_)
  clear hK K
  refine norm_ (a' := ?_) ?_ ?_
  rotate_left
  ·show Act.put _ (some 18) _ = _
   simp only [Act.put, List.setIfInBounds_toArray, List.set_cons_zero, List.set_cons_succ, i64_w, i32_w]
   rfl
  refine pus_ 11 (some 7) #[true, true, true, true, true, true, true, true, true, true, true, true, false, false, false, false] rfl rfl HT_.out ?_
  refine pus_ 12 (some 19) #[true, true, true, true, true, true, true, true, true, true, true, true, true, false, false, false] rfl rfl HT_.out ?_
  refine pus_ 13 (some 20) #[true, true, true, true, true, true, true, true, true, true, true, true, true, true, false, false] rfl rfl HT_.out ?_
  refine pus_ 14 (some 5) #[true, true, true, true, true, true, true, true, true, true, true, true, true, true, true, false] rfl rfl HT_.out ?_
  refine pus_ 15 (some 6) #[true, true, true, true, true, true, true, true, true, true, true, true, true, true, true, true] rfl rfl HT_.out ?_
  refine done_ (done_of HT_.out (by kernel_rfl)) ?_
  have hd0 := H2.out.s
  have hd1 := H2.out.i
  have hw2 : IntKind.i64.wrap ((j : Int) + 1) = ((j + 1 : Nat) : Int) := wrapE j 1 (by omega)
  obtain ⟨m, hm⟩ : ∃ m, j + 1 = m := ⟨_, rfl⟩
  rw [hm] at hw2 hf
  try dsimp only at hf
  by_cases hn : n > 0
  · rw [if_pos hn] at hf
    have p1 : decide (n > 0) = true := decide_eq_true hn
    have p2 : decide (0 < n) = true := decide_eq_true hn
    by_cases hlt : m < s.size
    · rw [if_pos hlt] at hf
      obtain rfl := Option.some.inj hf
      have q0 : (0 ≤ (m : Int)) = True := eq_true (by omega)
      have q1 : ((m : Int) < (s.size : Int)) = True := eq_true (by omega)
      have q2 : decide ((m : Int) < (s.size : Int)) = true := decide_eq_true (by omega)
      have q3 : decide (m < s.size) = true := decide_eq_true hlt
      have q4 : (m < s.size) = True := eq_true hlt
      have hx : ∀ h : m < s.size, ((s[m].toNat : Nat) : Int) = bt s (m : Nat) := fun h => bt_at s (m : Int) (by simpa using h)
      clear hf hlt hs hj hn hm hc0 hc1 hHeld HT_ HW_
      go_wp2
      refine wp_region_quiet_lit (by kernel_rfl) (by kernel_rfl) ?_
      repeat (go_big_quiet_step (fail))
      refine wpQuiet_nil ?_
      intro _ hw'
      obtain ⟨nq, hw''⟩ := hw'
      subst hw''
      go_wp2
      go_ret
      exact ⟨rfl, below_drewN0 HB2.out _⟩
    · rw [if_neg hlt] at hf
      cases hf
  · rw [if_neg hn] at hf
    obtain rfl := Option.some.inj hf
    have p1 : decide (n > 0) = false := decide_eq_false hn
    have p2 : decide (0 < n) = false := decide_eq_false hn
    clear hf hs hj hn hm hc0 hc1 hHeld HT_ HW_
    go_wp2
    refine wp_region_quiet_lit (by kernel_rfl) (by kernel_rfl) ?_
    repeat (go_big_quiet_step (fail))
    refine wpQuiet_nil ?_
    intro _ hw'
    obtain ⟨nq, hw''⟩ := hw'
    subst hw''
    go_wp2
    go_ret
    exact ⟨rfl, below_drewN0 HB2.out _⟩
set_option maxHeartbeats 8000000 in
set_option maxRecDepth 100000 in
theorem escape_1 (k : Nat) (s : ByteArray) (g i j : Nat) (hs : s.size ≤ 140737488351232) (hj : j ≤ 140737488351300) (hw : IntKind.i64.wrap ((i : Int) + 1) = (j : Int)) (r : Bool) (w : World) (h : Lx w g s i) (hf : escF k s j = some r) :
    Calls Try.prog 28 #[.pointer (some ⟨g, 0, none⟩), .int .i64 1] w fun e w' => e = .returned (.bool r) ∧ Below w.heap.size w w' := by
  have hu := Try.underlying37
  unfold escF at hf
  obtain ⟨⟨x, n⟩, hx0, hf⟩ := Option.bind_eq_some_iff.mp hf
  have A1 := Aside0.mk hx0
  have H1 := Aside0.mk h.drew
  have HB1 := Aside0.mk (below_drew1 (Below.refl w.heap.size w))
  have hc0 := h.s
  have hc1 := h.i
  clear hx0 h
  go_enter Try.func28, Try.ntmps28
  go_wp2
  refine start_ (n := 16) (S := (fun w' => w'.cell? ⟨g, 0, none⟩ = some (.string s) ∧ w'.cell? ⟨g, 1, none⟩ = some (.int .i64 (i : Int)))) (ds := []) #[false, false, false, false, false, false, false, false, false, false, false, false, false, false, false, false] (by kernel_rfl) rfl rfl ⟨H1.out.s, H1.out.i⟩ (fun hHeld => ?_)
  refine with_tabW lexer_escape.tab1 lexer_escape.bits1 (fun HT_ HW_ => ?_)
  generalize w.drew = w4 at H1 HB1 hHeld ⊢
  refine pus_ 0 (some 8) #[true, false, false, false, false, false, false, false, false, false, false, false, false, false, false, false] rfl rfl HT_.out ?_
  refine pus_ 1 (some 9) #[true, true, false, false, false, false, false, false, false, false, false, false, false, false, false, false] rfl rfl HT_.out ?_
  refine pus_ 2 (some 10) #[true, true, true, false, false, false, false, false, false, false, false, false, false, false, false, false] rfl rfl HT_.out ?_
  refine tas_ 3 (some 11) #[true, true, true, true, false, false, false, false, false, false, false, false, false, false, false, false] rfl rfl HT_.out HW_.out hHeld ?_
  refine pus_ 4 (some 12) #[true, true, true, true, true, false, false, false, false, false, false, false, false, false, false, false] rfl rfl HT_.out ?_
  refine pus_ 5 (some 13) #[true, true, true, true, true, true, false, false, false, false, false, false, false, false, false, false] rfl rfl HT_.out ?_
  refine pus_ 6 (some 14) #[true, true, true, true, true, true, true, false, false, false, false, false, false, false, false, false] rfl rfl HT_.out ?_
  refine tas_ 7 (some 15) #[true, true, true, true, true, true, true, true, false, false, false, false, false, false, false, false] rfl rfl HT_.out HW_.out hHeld ?_
  refine pus_ 8 (some 16) #[true, true, true, true, true, true, true, true, true, false, false, false, false, false, false, false] rfl rfl HT_.out ?_
  refine pus_ 9 (some 17) #[true, true, true, true, true, true, true, true, true, true, false, false, false, false, false, false] rfl rfl HT_.out ?_
  refine one_ (i := 10) (N := (some 18)) #[true, true, true, true, true, true, true, true, true, true, true, false, false, false, false, false] rfl rfl (one_of HT_.out (by kernel_rfl)) (by decide) (fun K hK => ?_)
  refine goes_ Try.func32 (by kernel_rfl) rfl #[.string s, .int .i64 (j : Int)] (by rfl) rfl rfl goa_ ?_
  with_reducible refine (token_Hex.calls k s (j : Int) x n _ A1.out).mono ?_
  rintro e w5 ⟨rfl, hb⟩
  refine ⟨_, rfl, ?_⟩
  have H2 := Aside0.mk (H1.out.below hb)
  have HB2 := Aside0.mk (below_step HB1.out hb)
  clear hb
  refine hK.out _ _ ⟨H2.out.s, H2.out.i⟩ (fun hHeld => ?_)
  clear hK K
  refine norm_ (a' := ?_) ?_ ?_
  rotate_left
  ·show Act.put _ (some 18) _ = _
   simp only [Act.put, List.setIfInBounds_toArray, List.set_cons_zero, List.set_cons_succ, i64_w, i32_w]
   rfl
  refine pus_ 11 (some 7) #[true, true, true, true, true, true, true, true, true, true, true, true, false, false, false, false] rfl rfl HT_.out ?_
  refine pus_ 12 (some 19) #[true, true, true, true, true, true, true, true, true, true, true, true, true, false, false, false] rfl rfl HT_.out ?_
  refine pus_ 13 (some 20) #[true, true, true, true, true, true, true, true, true, true, true, true, true, true, false, false] rfl rfl HT_.out ?_
  refine pus_ 14 (some 5) #[true, true, true, true, true, true, true, true, true, true, true, true, true, true, true, false] rfl rfl HT_.out ?_
  refine pus_ 15 (some 6) #[true, true, true, true, true, true, true, true, true, true, true, true, true, true, true, true] rfl rfl HT_.out ?_
  refine done_ (done_of HT_.out (by kernel_rfl)) ?_
  have hd0 := H2.out.s
  have hd1 := H2.out.i
  have hw2 : IntKind.i64.wrap ((j : Int) + 1) = ((j + 1 : Nat) : Int) := wrapE j 1 (by omega)
  obtain ⟨m, hm⟩ : ∃ m, j + 1 = m := ⟨_, rfl⟩
  rw [hm] at hw2 hf
  try dsimp only at hf
  by_cases hn : n > 0
  · rw [if_pos hn] at hf
    have p1 : decide (n > 0) = true := decide_eq_true hn
    have p2 : decide (0 < n) = true := decide_eq_true hn
    by_cases hlt : m < s.size
    · rw [if_pos hlt] at hf
      obtain rfl := Option.some.inj hf
      have q0 : (0 ≤ (m : Int)) = True := eq_true (by omega)
      have q1 : ((m : Int) < (s.size : Int)) = True := eq_true (by omega)
      have q2 : decide ((m : Int) < (s.size : Int)) = true := decide_eq_true (by omega)
      have q3 : decide (m < s.size) = true := decide_eq_true hlt
      have q4 : (m < s.size) = True := eq_true hlt
      have hx : ∀ h : m < s.size, ((s[m].toNat : Nat) : Int) = bt s (m : Nat) := fun h => bt_at s (m : Int) (by simpa using h)
      clear hf hlt hs hj hn hm hc0 hc1 hHeld HT_ HW_
      go_wp2
      refine wp_region_quiet_lit (by kernel_rfl) (by kernel_rfl) ?_
      repeat (go_big_quiet_step (fail))
      refine wpQuiet_nil ?_
      intro _ hw'
      obtain ⟨nq, hw''⟩ := hw'
      subst hw''
      go_wp2
      go_ret
      exact ⟨rfl, below_drewN0 HB2.out _⟩
    · rw [if_neg hlt] at hf
      cases hf
  · rw [if_neg hn] at hf
    obtain rfl := Option.some.inj hf
    have p1 : decide (n > 0) = false := decide_eq_false hn
    have p2 : decide (0 < n) = false := decide_eq_false hn
    clear hf hs hj hn hm hc0 hc1 hHeld HT_ HW_
    go_wp2
    refine wp_region_quiet_lit (by kernel_rfl) (by kernel_rfl) ?_
    repeat (go_big_quiet_step (fail))
    refine wpQuiet_nil ?_
    intro _ hw'
    obtain ⟨nq, hw''⟩ := hw'
    subst hw''
    go_wp2
    go_ret
    exact ⟨rfl, below_drewN0 HB2.out _⟩
end Go.Proofs.Ytholgbdfflabhaa.Giv
end
section
namespace Go.Proofs.Ytholgbdfflabhaa.Giv
open Go.RowKit Go.Proofs.YtholgbdfflabhaaW.PrintWords Go.Proofs.YtholgbdfflabhaaW.PrintLast Go.Proofs.YtholgbdfflabhaaW.PrintMore Go.Proofs.Ytholgbdfflabhaa.PTk
open Go.Proofs.Ytholgbdfflabhaa.Opn Go.BigFrame
/-- Does an identifier begin at a place? -/
def begF (k : Nat) (s : ByteArray) (i : Nat) : Option Bool := (isF token_lexer_begins_1.f s i).bind fun m => if m = true then ((isF token_lexer_begins_1.f s (i + 1)).bind fun a => if a = true then some true else ((isF token_Letter.f s (i + 1)).bind fun b => if b = true then some true else escF k s (i + 1)))
    else ((isF token_Letter.f s i).bind fun a => if a = true then some true else escF k s i)
theorem begF.mono : ∀ s i k, LeO (begF k s i) (begF (k + 1) s i) := by
  intro s i k
  unfold begF
  repeat' first
      | (with_reducible exact escF.mono _ _ _)
      | (with_reducible exact LeO.refl _)
      | (with_reducible exact LeO.none _)
      | (with_reducible refine LeO.ite ?_ ?_)
      | (with_reducible refine LeO.bind ?_ (fun _ => ?_))
set_option maxHeartbeats 8000000 in
set_option maxRecDepth 100000 in
theorem begins_calls (k : Nat) (s : ByteArray) (g i : Nat) (hs : s.size ≤ 140737488351232) (hi : i ≤ s.size) (r : Bool) (w : World) (h : Lx w g s i) (hf : begF k s i = some r) :
    Calls Try.prog 17 #[.pointer (some ⟨g, 0, none⟩)] w fun e w' => e = .returned (.bool r) ∧ Below w.heap.size w w' := by
  have HS := Aside0.mk hs
  have HX := Aside0.mk h
  have HB := Aside0.mk (Below.refl w.heap.size w)
  have HJ0 := Aside0.mk (show i ≤ 140737488351300 by omega)
  have HJ1 := Aside0.mk (show i + 1 ≤ 140737488351300 by omega)
  have HW0 := Aside0.mk (show IntKind.i64.wrap (i : Int) = (i : Int) from wrapE i 0 (by omega))
  have HW1 := Aside0.mk (show IntKind.i64.wrap ((i : Int) + 1) = ((i + 1 : Nat) : Int) from wrapE i 1 (by omega))
  unfold begF at hf
  obtain ⟨m, hm, hf⟩ := Option.bind_eq_some_iff.mp hf
  have A1 := Aside0.mk hm
  clear hm h hs hi
  cases m
  · rw [if_neg (by decide)] at hf
    obtain ⟨a, ha, hf⟩ := Option.bind_eq_some_iff.mp hf
    have A2 := Aside0.mk ha
    clear ha
    cases a
    · rw [if_neg (by decide)] at hf
      have A3 := Aside0.mk hf
      clear hf
      go_enter Try.func17, Try.ntmps17
      go_wp2_with (first | (go_at_call 15; with_reducible refine (is_minus0 s g i i HS.out HW0.out _ _ ?lx A1.out).mono ?_; (case lx => exact (by repeat (first | (with_reducible first | exact HX.out | apply Lx.drewN | apply Lx.drew)))); rintro e wi ⟨rfl, ⟨ni, rfl⟩⟩) | (go_at_call 15; with_reducible refine (is_letter0 s g i i HS.out HW0.out _ _ ?lx A2.out).mono ?_; (case lx => exact (by repeat (first | (with_reducible first | exact HX.out | apply Lx.drewN | apply Lx.drew)))); rintro e wi ⟨rfl, ⟨ni, rfl⟩⟩) | (go_at_call 28; with_reducible refine (escape_0 k s g i i HS.out HJ0.out HW0.out _ _ ?lx A3.out).mono ?_; (case lx => exact (by repeat (first | (with_reducible first | exact HX.out | apply Lx.drewN | apply Lx.drew)))); rintro e wi ⟨rfl, hb⟩; have HX2 := Aside0.mk (Lx.below (by repeat (first | (with_reducible first | exact HX.out | apply Lx.drewN | apply Lx.drew))) hb); have HB2 := Aside0.mk (below_step (by repeat (first | (with_reducible first | exact HB.out | apply below_drewN0 | apply below_drew1))) hb); clear hb HX HB; have HX := HX2; have HB := HB2; clear HX2 HB2))
      go_ret
      exact ⟨rfl, (by repeat (first | (with_reducible first | exact HB.out | apply below_drewN0 | apply below_drew1)))⟩
    · rw [if_pos rfl] at hf
      obtain rfl := Option.some.inj hf
      clear hf
      go_enter Try.func17, Try.ntmps17
      go_wp2_with (first | (go_at_call 15; with_reducible refine (is_minus0 s g i i HS.out HW0.out _ _ ?lx A1.out).mono ?_; (case lx => exact (by repeat (first | (with_reducible first | exact HX.out | apply Lx.drewN | apply Lx.drew)))); rintro e wi ⟨rfl, ⟨ni, rfl⟩⟩) | (go_at_call 15; with_reducible refine (is_letter0 s g i i HS.out HW0.out _ _ ?lx A2.out).mono ?_; (case lx => exact (by repeat (first | (with_reducible first | exact HX.out | apply Lx.drewN | apply Lx.drew)))); rintro e wi ⟨rfl, ⟨ni, rfl⟩⟩))
      go_ret
      exact ⟨rfl, (by repeat (first | (with_reducible first | exact HB.out | apply below_drewN0 | apply below_drew1)))⟩
  · rw [if_pos rfl] at hf
    obtain ⟨a, ha, hf⟩ := Option.bind_eq_some_iff.mp hf
    have A2 := Aside0.mk ha
    clear ha
    cases a
    · rw [if_neg (by decide)] at hf
      obtain ⟨b, hb, hf⟩ := Option.bind_eq_some_iff.mp hf
      have A3 := Aside0.mk hb
      clear hb
      cases b
      · rw [if_neg (by decide)] at hf
        have A4 := Aside0.mk hf
        clear hf
        go_enter Try.func17, Try.ntmps17
        go_wp2_with (first | (go_at_call 15; with_reducible refine (is_minus0 s g i i HS.out HW0.out _ _ ?lx A1.out).mono ?_; (case lx => exact (by repeat (first | (with_reducible first | exact HX.out | apply Lx.drewN | apply Lx.drew)))); rintro e wi ⟨rfl, ⟨ni, rfl⟩⟩) | (go_at_call 15; with_reducible refine (is_minus1 s g i (i + 1) HS.out HW1.out _ _ ?lx A2.out).mono ?_; (case lx => exact (by repeat (first | (with_reducible first | exact HX.out | apply Lx.drewN | apply Lx.drew)))); rintro e wi ⟨rfl, ⟨ni, rfl⟩⟩) | (go_at_call 15; with_reducible refine (is_letter1 s g i (i + 1) HS.out HW1.out _ _ ?lx A3.out).mono ?_; (case lx => exact (by repeat (first | (with_reducible first | exact HX.out | apply Lx.drewN | apply Lx.drew)))); rintro e wi ⟨rfl, ⟨ni, rfl⟩⟩) | (go_at_call 28; with_reducible refine (escape_1 k s g i (i + 1) HS.out HJ1.out HW1.out _ _ ?lx A4.out).mono ?_; (case lx => exact (by repeat (first | (with_reducible first | exact HX.out | apply Lx.drewN | apply Lx.drew)))); rintro e wi ⟨rfl, hb⟩; have HX2 := Aside0.mk (Lx.below (by repeat (first | (with_reducible first | exact HX.out | apply Lx.drewN | apply Lx.drew))) hb); have HB2 := Aside0.mk (below_step (by repeat (first | (with_reducible first | exact HB.out | apply below_drewN0 | apply below_drew1))) hb); clear hb HX HB; have HX := HX2; have HB := HB2; clear HX2 HB2))
        go_ret
        exact ⟨rfl, (by repeat (first | (with_reducible first | exact HB.out | apply below_drewN0 | apply below_drew1)))⟩
      · rw [if_pos rfl] at hf
        obtain rfl := Option.some.inj hf
        clear hf
        go_enter Try.func17, Try.ntmps17
        go_wp2_with (first | (go_at_call 15; with_reducible refine (is_minus0 s g i i HS.out HW0.out _ _ ?lx A1.out).mono ?_; (case lx => exact (by repeat (first | (with_reducible first | exact HX.out | apply Lx.drewN | apply Lx.drew)))); rintro e wi ⟨rfl, ⟨ni, rfl⟩⟩) | (go_at_call 15; with_reducible refine (is_minus1 s g i (i + 1) HS.out HW1.out _ _ ?lx A2.out).mono ?_; (case lx => exact (by repeat (first | (with_reducible first | exact HX.out | apply Lx.drewN | apply Lx.drew)))); rintro e wi ⟨rfl, ⟨ni, rfl⟩⟩) | (go_at_call 15; with_reducible refine (is_letter1 s g i (i + 1) HS.out HW1.out _ _ ?lx A3.out).mono ?_; (case lx => exact (by repeat (first | (with_reducible first | exact HX.out | apply Lx.drewN | apply Lx.drew)))); rintro e wi ⟨rfl, ⟨ni, rfl⟩⟩))
        go_ret
        exact ⟨rfl, (by repeat (first | (with_reducible first | exact HB.out | apply below_drewN0 | apply below_drew1)))⟩
    · rw [if_pos rfl] at hf
      obtain rfl := Option.some.inj hf
      clear hf
      go_enter Try.func17, Try.ntmps17
      go_wp2_with (first | (go_at_call 15; with_reducible refine (is_minus0 s g i i HS.out HW0.out _ _ ?lx A1.out).mono ?_; (case lx => exact (by repeat (first | (with_reducible first | exact HX.out | apply Lx.drewN | apply Lx.drew)))); rintro e wi ⟨rfl, ⟨ni, rfl⟩⟩) | (go_at_call 15; with_reducible refine (is_minus1 s g i (i + 1) HS.out HW1.out _ _ ?lx A2.out).mono ?_; (case lx => exact (by repeat (first | (with_reducible first | exact HX.out | apply Lx.drewN | apply Lx.drew)))); rintro e wi ⟨rfl, ⟨ni, rfl⟩⟩))
      go_ret
      exact ⟨rfl, (by repeat (first | (with_reducible first | exact HB.out | apply below_drewN0 | apply below_drew1)))⟩
end Go.Proofs.Ytholgbdfflabhaa.Giv
end
section
namespace Go.Proofs.Ytholgbdfflabhaa.Giv
open Go.RowKit Go.Proofs.YtholgbdfflabhaaW.PrintWords Go.Proofs.YtholgbdfflabhaaW.PrintLast Go.Proofs.YtholgbdfflabhaaW.PrintMore Go.Proofs.Ytholgbdfflabhaa.PTk
open Go.Proofs.Ytholgbdfflabhaa.Opn Go.BigFrame
/-- All is kept but the lexer's block. -/
structure Lk (g : Nat) (w w' : World) : Prop where
  os : w'.os = w.os
  tape : w'.tape = w.tape
  output : w'.output = w.output
  size : w.heap.size ≤ w'.heap.size
  heap : ∀ k, k < w.heap.size → k ≠ g → w'.heap[k]? = w.heap[k]?
theorem Lx.setv {W : World} {g : Nat} {s : ByteArray} {i : Nat} (h : Lx W g s i) {v : Int} {j : Nat} (hv : v = (j : Int)) : Lx (W.setCell ⟨g, 1, none⟩ (.int .i64 v)) g s j := by
  subst hv
  exact h.set j
theorem Lk.refl (g : Nat) (w : World) : Lk g w w := ⟨rfl, rfl, rfl, Nat.le_refl _, fun _ _ _ => rfl⟩
theorem Lk.trans {g : Nat} {w w1 w2 : World} (h : Lk g w w1) (k : Lk g w1 w2) : Lk g w w2 :=
  ⟨k.os.trans h.os, k.tape.trans h.tape, k.output.trans h.output, Nat.le_trans h.size k.size, fun i hi hg => (k.heap i (Nat.lt_of_lt_of_le hi h.size) hg).trans (h.heap i hi hg)⟩
theorem Lk.of_below {g : Nat} {w w' : World} (h : Below w.heap.size w w') : Lk g w w' := ⟨h.os, h.tape, h.output, h.size, fun k hk _ => h.block k hk⟩
theorem Lk.call {g : Nat} {w w1 w2 : World} (h : Lk g w w1) (k : Below w1.heap.size w1 w2) : Lk g w w2 := h.trans (Lk.of_below k)
theorem Lk.drewN {g : Nat} {w w1 : World} (h : Lk g w w1) (n : Nat) : Lk g w (w1.drewN n) := h.trans ⟨rfl, rfl, rfl, Nat.le_refl _, fun _ _ _ => rfl⟩
theorem Lk.drew {g : Nat} {w w1 : World} (h : Lk g w w1) : Lk g w w1.drew := h.trans ⟨rfl, rfl, rfl, Nat.le_refl _, fun _ _ _ => rfl⟩
theorem Lk.set {g : Nat} {w w1 : World} (h : Lk g w w1) (o : Nat) (v : Value) : Lk g w (w1.setCell ⟨g, o, none⟩ v) :=
  h.trans ⟨rfl, rfl, rfl, by simp [World.setCell], fun k hk hg => Below.heap_setCell w1 _ v k hg⟩
theorem Lk.below {g B : Nat} {a w w' : World} (hb : Below B a w) (h : Lk g w w') (hg : B ≤ g) (hB : B ≤ w.heap.size) : Below B a w' :=
  hb.trans ⟨h.os, h.tape, h.output, h.size, fun k hk => h.heap k (Nat.lt_of_lt_of_le hk hB) (by omega)⟩
theorem Lk.at {g k : Nat} {w w' : World} {o : Obj} (h : Lk g w w') (hk : w.heap[k]? = some o) (hg : k ≠ g) : w'.heap[k]? = some o := (h.heap k (Array.getElem?_eq_some_iff.1 hk).1 hg).trans hk
/-- Where the blanks end (a comment: none). -/
def skipF : Nat → ByteArray → Nat → Option Nat
  | 0, _, _ => none
  | k + 1, s, i => if i < s.size then ((token_blank.f (bt s (i : Nat))).bind fun b => if b = true then skipF k s (i + 1) else ((strings_HasPrefix.f (s.extract i s.size) (⟨#[47, 42]⟩ : ByteArray)).bind fun p => if p = true then none else some i)) else some i
theorem skipF.mono : ∀ k s i, LeO (skipF k s i) (skipF (k + 1) s i)
  | 0, s, i => LeO.none _
  | k + 1, s, i => by
    unfold skipF
    repeat' first
      | exact skipF.mono k _ _
      | (with_reducible exact LeO.refl _)
      | (with_reducible exact LeO.none _)
      | (with_reducible refine LeO.ite ?_ ?_)
      | (with_reducible refine LeO.bind ?_ (fun _ => ?_))
end Go.Proofs.Ytholgbdfflabhaa.Giv
end
section
/- The contracts of (*strings.Builder).copyCheck and WriteString, by hand, of a builder that the call itself has made. Condition: what is held and what is written is at most 2^47 bytes. -/
namespace Go.Proofs.Ytholgbdfflabhaa.Giv
open Go.RowKit

theorem builder_size : (Try.prog.info? 53).map (·.size) = some 2 := by kernel_rfl
theorem builder_lies : liesAt Try.prog Try.prog.depth 53 (2 / Try.prog.cellsOf 53) 0 53 1 = true := by kernel_rfl
theorem byte_info : (Try.prog.info? 5).map (fun i => (i.zero, i.size, i.bytes)) = some (some (.int .u8 0), 1, 1) := by kernel_rfl

set_option maxHeartbeats 1000000 in
set_option maxRecDepth 100000 in
theorem copyCheck_used (b : Nat) (w : World) (h0 : w.cell? ⟨b, 0, none⟩ = some (.pointer (some ⟨b, 0, none⟩))) :
    Calls Try.prog 43 #[.pointer (some ⟨b, 0, none⟩)] w fun e w' => e = .returned (.tuple #[]) ∧ w' = w := by
  obtain ⟨j, hj, _⟩ := Option.map_eq_some_iff.1 builder_size
  have ht := Try.underlying51
  have hs := Lib.run_neq_ptr_same w (⟨b, 0, none⟩ : Addr) ht hj
  go_enter Try.func43, Try.ntmps43
  go_wp2
  go_end0
  exact ⟨rfl, rfl⟩

set_option maxHeartbeats 1000000 in
set_option maxRecDepth 100000 in
theorem copyCheck_fresh (b : Nat) (w : World) (h0 : w.cell? ⟨b, 0, none⟩ = some (.pointer none)) (hsh : w.shape? b = some (53, 2)) (hfz : w.frozen? ⟨b, 0, none⟩ = false) :
    Calls Try.prog 43 #[.pointer (some ⟨b, 0, none⟩)] w fun e w' => e = .returned (.tuple #[]) ∧ w' = w.setCell ⟨b, 0, none⟩ (.pointer (some ⟨b, 0, none⟩)) := by
  obtain ⟨j, hj, hjs⟩ := Option.map_eq_some_iff.1 builder_size
  have ht := Try.underlying51
  have hu := Try.underlying69
  go_enter Try.func43, Try.ntmps43
  go_wp2
  rw [Lib.run_to_unsafe w ⟨b, 0, none⟩ ht hu hj (by rw [hjs]; decide) hsh (Nat.zero_lt_succ 1)]
  simp only [Result.andThen]
  rw [Oper.upon_value]
  go_wp2
  rw [run_callFunc_extern Try.func48 (by kernel_rfl) (by kernel_rfl) (by kernel_rfl) (e := Extern.AbiNoEscape.same) (by kernel_rfl)]
  rw [Lib.run_noEscape]
  simp only [Result.andThen]
  rw [Oper.upon_value]
  go_wp2
  rw [Lib.run_from_unsafe w ⟨b, 0, none⟩ hu ht hj hsh builder_lies]
  simp only [Result.andThen]
  rw [Oper.upon_value]
  go_wp2
  go_end0
  exact ⟨rfl, rfl⟩

theorem copyCheck_calls (B b : Nat) (bs : List Value) (w : World) (h : Lib.IsBuilder 53 5 B b bs w) :
    Calls Try.prog 43 #[.pointer (some ⟨b, 0, none⟩)] w fun e w' => e = .returned (.tuple #[]) ∧ (Lib.BuilderAt 53 5 B b (.pointer (some ⟨b, 0, none⟩)) bs w' ∧ Below B w w') := by
  rcases h with h | h
  · refine (copyCheck_fresh b w h.cell0 h.shape h.frozen0).mono ?_
    rintro e w' ⟨rfl, rfl⟩
    exact ⟨rfl, h.used _, (Below.refl B w).setCell (p := ⟨b, 0, none⟩) h.1 _⟩
  · refine (copyCheck_used b w h.cell0).mono ?_
    rintro e w' ⟨rfl, rfl⟩
    exact ⟨rfl, h, Below.refl B _⟩

set_option maxHeartbeats 2000000 in
set_option maxRecDepth 100000 in
theorem writeString_calls (B b : Nat) (bs : List Value) (s : ByteArray) (w : World) (h : Lib.IsBuilder 53 5 B b bs w) (hlen : bs.length + s.size ≤ 140737488355328) (hBw : B ≤ w.heap.size) :
    Calls Try.prog 33 #[.pointer (some ⟨b, 0, none⟩), .string s] w fun e w' => e = .returned (.tuple #[.int .i64 s.size, .nilIface]) ∧ (Lib.BuilderAt 53 5 B b (.pointer (some ⟨b, 0, none⟩)) (bs ++ Lib.strCells s) w' ∧ Below B w w') := by
  obtain ⟨i0, hi, hz0, hz1, hz2⟩ := info_parts byte_info
  go_enter Try.func33, Try.ntmps33
  go_wp2_with (go_at_call 43; refine (copyCheck_calls B b bs _ h).mono ?_)
  rintro e w1 ⟨rfl, h1, hb1⟩
  have hlt := h1.lt
  obtain ⟨hB, v, hbk, hown, hne⟩ := h1
  have c0 : w1.cell? ⟨b, 0, none⟩ = some (.pointer (some ⟨b, 0, none⟩)) := by rw [Lib.cell_of_heap hbk]; rfl
  have c1 : w1.cell? ⟨b, 1, none⟩ = some v := by rw [Lib.cell_of_heap hbk]; rfl
  go_wp2_with (at_builtin; refine Lib.wpList_append_own_string _ rfl _ _ 22 9 rfl B 5 i0 Try.underlying22 Try.underlying9 hi hz0 hz1 hz2 _ _ _ rfl hown s rfl ?c3 ?c4 ?c5 ?_)
  case c3 => unfold maxLen; omega
  case c4 => omega
  case c5 => have := hb1.size; omega
  intro v' w2 hown' hgrow _
  have hb2 : w2.heap[b]? = some (.cells #[.pointer (some ⟨b, 0, none⟩), v] 53 (0, 0)) := (hgrow.block b hlt (fun e => hne e.symm)).trans hbk
  have d0 : w2.cell? ⟨b, 0, none⟩ = some (.pointer (some ⟨b, 0, none⟩)) := by rw [Lib.cell_of_heap hb2]; rfl
  have d1 : w2.cell? ⟨b, 1, none⟩ = some v := by rw [Lib.cell_of_heap hb2]; rfl
  have f1 : w2.frozen? ⟨b, 1, none⟩ = false := Lib.frozen_of_heap hb2 1
  obtain ⟨ao, n', cap, rfl⟩ : ∃ ao n' cap, v' = .slice ao n' cap := by
    rcases hown'.2 with ⟨hv, _⟩ | ⟨g, cap, cur, hv, _⟩
    · exact ⟨_, _, _, hv⟩
    · exact ⟨_, _, _, hv⟩
  go_wp2
  go_ret2
  refine ⟨rfl, ?_, ?_⟩
  · exact Lib.BuilderAt.put (T := 53) (e := 5) hB hb2 (bs' := bs ++ Lib.strCells s) (by simpa [Lib.strCells_length] using hown') (by decide)
  · exact (hb1.grown hgrow (by have := hb1.size; omega) (fun k hk => (hown.lt k hk).1)).setCell (p := ⟨b, 1, none⟩) hB _
end Go.Proofs.Ytholgbdfflabhaa.Giv
end
