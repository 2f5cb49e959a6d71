/- LineFoursCardSaid, part 4 of 13: contracts of the program's functions, the words that they use, and the plain laws on what they compute. Conditions: none beyond what the statements say. -/
import Derived.Test.YtofdhdafabmhmaaDoorKL41
import Derived.Test.YtofdhdafabmhmaaDoorProg
import Derived.Below
import Derived.Deep.Draws
import Derived.Deep.AppendLies
import Derived.Maps.AppendAt
import Derived.OwnWalk
import Derived.Laws.BytesArg
import Derived.Laws.MakeOwn
import Derived.Laws.OwnMore
import Derived.Deep.OwnRows
import Derived.Tactics
import Derived.Lib.ConvBytes
import Derived.Laws.Slices
import Derived.WalkKit
import Derived.KernelRfl
import Derived.RowKit3
import Derived.Deep.LoopGhost
import Derived.Deep.QuietTactic
import Derived.BigQuiet
import Derived.WideLaws
import Derived.Deep.DeepCutAuto
import Derived.Deep.CutBlock
import Derived.Deep.RegionHeld3
import Derived.Laws.Rows
import Derived.Lib.AppendStr
import Derived.ArgAppend
import Derived.Laws.IdiomCopy
import Derived.OrdersHeld
import Derived.Laws.BitsLemmas
import Derived.RowKit
import Derived.Test.YtofdhdafabmhmaaDoorKL40
import Derived.Shelf.Strings.Builder1
import Derived.Shelf.Strings.Builder2
import Derived.Shelf.Small.Utf8
import Derived.Shelf.Small.Strs
import Derived.Shelf.Strconv.Itoa0
import Derived.Shelf.Strconv.Itoa1
import Derived.Shelf.LaysM
import Derived.Shelf.Strconv.Itoa2
import Derived.Shelf.Strconv.Itoa3
import Derived.Shelf.Strings.Search1
import Derived.Shelf.Strings.Search2
import Derived.Shelf.Strings.Search3
import Derived.Shelf.Strings.Shaped
import Derived.Shelf.Unicode.Decode
import Derived.Shelf.Strings.Runes
import Derived.Shelf.Strings.AsciiSet
import Derived.Shelf.Unicode.DecodeSlow
import Derived.Shelf.Unicode.DecodeAny
set_option linter.unusedVariables false
set_option linter.unusedSimpArgs false
section
namespace Go.Proofs.YtofdhdafabmhmaaDoor.PLf4
open Go.RowKit Go.Proofs.YtofdhdafabmhmaaDoorW.PrintWords Go.Proofs.YtofdhdafabmhmaaDoorW.PrintLast Go.Proofs.YtofdhdafabmhmaaDoorW.PrintMore
attribute [local go_sem] max2_int min2_int max_two min_two max_three min_three max_four min_four
open Go.Proofs.YtofdhdafabmhmaaDoor.Opn Go.Proofs.YtofdhdafabmhmaaDoor.Giv
set_option maxRecDepth 100000



def errW : Option Int → Value
 | none => .nilIface
 | some c => .iface 0 (.int .i64 c)
theorem errW_none : errW none = .nilIface := rfl
theorem errW_some (c : Int) : errW (some c) = .iface 0 (.int .i64 c) := rfl

theorem info5 : (Tryd.prog.info? 5).map (fun i => (i.zero, i.size, i.bytes)) = some (some (.int .u8 0), 1, 1) := by kernel_rfl
theorem info41 : (Tryd.prog.info? 41).map (fun i => (i.zero, i.size, i.bytes)) = some (some (.agg #[(.int .i64 0), (.int .i64 0), (.string ⟨#[]⟩)]), 3, 32) := by kernel_rfl
-- the values' own types
/-! #### struct type 133 -/
structure S133 where
 f0 : Bool
 f1 : ByteArray
 f2 : ByteArray
 f3 : ByteArray
 f4 : Int
/-! #### struct type 67 -/
structure S67 where
 f0 : Int
 f1 : Int
 f2 : ByteArray
 f3 : ByteArray
def z67 : S67 := ⟨(0 : Int), (0 : Int), (⟨#[]⟩ : ByteArray), (⟨#[]⟩ : ByteArray)⟩
def k67 : Kd S67 := Kd.iso (Kd.pair (Kd.int .i64) (Kd.pair (Kd.int .i64) (Kd.pair Kd.string Kd.string))) (fun x : S67 => (x.f0, x.f1, x.f2, x.f3))
theorem k67_open {w : World} {x : S67} {cs : List Value} (h : k67.K w x cs) : cs = [.int .i64 x.f0, .int .i64 x.f1, .string x.f2, .string x.f3] := by
 obtain ⟨_, _, rfl, rfl, ⟨_, _, rfl, rfl, ⟨_, _, rfl, rfl, rfl⟩⟩⟩ := h; exact rfl
theorem k67_mkM (w : World) (base : Nat) (ok : Nat → Prop) (x : S67)  : k67.M w base ok x [.int .i64 x.f0, .int .i64 x.f1, .string x.f2, .string x.f3] := ⟨[.int .i64 x.f0], [.int .i64 x.f1, .string x.f2, .string x.f3], rfl, rfl, ⟨[.int .i64 x.f1], [.string x.f2, .string x.f3], rfl, rfl, ⟨[.string x.f2], [.string x.f3], rfl, rfl, rfl⟩⟩⟩
def rd_T67 (xs : List S67) (i : Int) : S67 := xs.getD i.toNat z67
theorem at_T67 {w : World} {A : Option Addr} {n : Nat} {xs : List S67} (h : Kd.C k67 w A n xs) (i : Int) (h0 : 0 ≤ i) (h1 : i < n) : ∃ ad , A = some ad ∧ w.cell? (ad.add (i.toNat * 4)) = some (.int .i64 (rd_T67 xs i).f0) ∧ w.cell? ⟨(ad.add (i.toNat * 4)).block, (ad.add (i.toNat * 4)).off + 1, none⟩ = some (.int .i64 (rd_T67 xs i).f1) ∧ w.cell? ⟨(ad.add (i.toNat * 4)).block, (ad.add (i.toNat * 4)).off + 2, none⟩ = some (.string (rd_T67 xs i).f2) ∧ w.cell? ⟨(ad.add (i.toNat * 4)).block, (ad.add (i.toNat * 4)).off + 3, none⟩ = some (.string (rd_T67 xs i).f3) := by
 obtain ⟨ad, c, e, _, hK, hc0⟩ := Kd.C_get h z67 i h0 h1; have hc : ∀ j u, c[j]? = some u → w.cell? (ad.add (i.toNat * 4 + j)) = some u := hc0; obtain rfl := k67_open hK; exact ⟨ad, e, hc 0 _ rfl, by rw [← add_field _ _ 1 (by omega)]; exact hc 1 _ rfl, by rw [← add_field _ _ 2 (by omega)]; exact hc 2 _ rfl, by rw [← add_field _ _ 3 (by omega)]; exact hc 3 _ rfl⟩

/-! #### struct type 41 -/
structure S41 where
 f0 : Int
 f1 : Int
 f2 : ByteArray
def z41 : S41 := ⟨(0 : Int), (0 : Int), (⟨#[]⟩ : ByteArray)⟩
def k41 : Kd S41 := Kd.iso (Kd.pair (Kd.int .i64) (Kd.pair (Kd.int .i64) Kd.string)) (fun x : S41 => (x.f0, x.f1, x.f2))
theorem k41_open {w : World} {x : S41} {cs : List Value} (h : k41.K w x cs) : cs = [.int .i64 x.f0, .int .i64 x.f1, .string x.f2] := by
 obtain ⟨_, _, rfl, rfl, ⟨_, _, rfl, rfl, rfl⟩⟩ := h; exact rfl
theorem k41_mkM (w : World) (base : Nat) (ok : Nat → Prop) (x : S41)  : k41.M w base ok x [.int .i64 x.f0, .int .i64 x.f1, .string x.f2] := ⟨[.int .i64 x.f0], [.int .i64 x.f1, .string x.f2], rfl, rfl, ⟨[.int .i64 x.f1], [.string x.f2], rfl, rfl, rfl⟩⟩
def rd_T41 (xs : List S41) (i : Int) : S41 := xs.getD i.toNat z41
theorem at_T41 {w : World} {A : Option Addr} {n : Nat} {xs : List S41} (h : Kd.C k41 w A n xs) (i : Int) (h0 : 0 ≤ i) (h1 : i < n) : ∃ ad , A = some ad ∧ w.cell? (ad.add (i.toNat * 3)) = some (.int .i64 (rd_T41 xs i).f0) ∧ w.cell? ⟨(ad.add (i.toNat * 3)).block, (ad.add (i.toNat * 3)).off + 1, none⟩ = some (.int .i64 (rd_T41 xs i).f1) ∧ w.cell? ⟨(ad.add (i.toNat * 3)).block, (ad.add (i.toNat * 3)).off + 2, none⟩ = some (.string (rd_T41 xs i).f2) := by
 obtain ⟨ad, c, e, _, hK, hc0⟩ := Kd.C_get h z41 i h0 h1; have hc : ∀ j u, c[j]? = some u → w.cell? (ad.add (i.toNat * 3 + j)) = some u := hc0; obtain rfl := k41_open hK; exact ⟨ad, e, hc 0 _ rfl, by rw [← add_field _ _ 1 (by omega)]; exact hc 1 _ rfl, by rw [← add_field _ _ 2 (by omega)]; exact hc 2 _ rfl⟩

/-! #### struct type 50 -/
structure S50 where
 f0 : S41
 f1 : S41
 f2 : S41
 f3 : S41

theorem eqA41 (d : Nat) (w : World) (x0 y0 : Int) (x1 y1 : Int) (x2 y2 : ByteArray) :
  (Op.equalIn (d + 2) 41 (.agg #[.int .i64 x0, .int .i64 x1, .string x2]) (.agg #[.int .i64 y0, .int .i64 y1, .string y2])).run Tryd.prog w = .ok (x0 == y0 && (x1 == y1 && (x2.toList == y2.toList))) w := by
 refine eqA_of Tryd.underlying41 (by kernel_rfl) ?_
 refine eqf_cons (by rfl) (by go_simp; rfl) (by go_simp; rfl) (by go_simp) ?_
 refine eqf_cons (by rfl) (by go_simp; rfl) (by go_simp; rfl) (by go_simp) ?_
 exact eqf_last (by rfl) (by go_simp; rfl) (by go_simp; rfl) (by go_simp)
end Go.Proofs.YtofdhdafabmhmaaDoor.PLf4
end
section
/- Contracts of the library's functions that this place's programs call, laid by the kit's shelf in plain words. -/
namespace Go.Proofs
open Go.Shelf
def Tryd.lays169_ren : Go.Shelf.Ren := ⟨fun | 169 => 64 | n => n, fun | 70 => 98 | 9 => 9 | 0 => 0 | 72 => 100 | 37 => 63 | 127 => 123 | 3 => 3 | 5 => 5 | n => n, fun | n => n⟩
theorem Tryd.lays169 : Go.Proofs.Lays.n169 Tryd.prog Tryd.lays169_ren := {
  mixed := by kernel_rfl
  f169 := Tryd.func64.trans (congrArg some (by kernel_rfl))
  t0 := Tryd.underlying0
  a0 := Tryd.isAgg0
  z0 := Tryd.sizeOf0
  v0 := Tryd.zeroValue0
  t3 := Tryd.underlying3
  a3 := Tryd.isAgg3
  z3 := Tryd.sizeOf3
  v3 := Tryd.zeroValue3
  t9 := Tryd.underlying9
  a9 := Tryd.isAgg9
  z9 := Tryd.sizeOf9
  v9 := Tryd.zeroValue9
  t37 := Tryd.underlying63
  a37 := Tryd.isAgg63
  z37 := Tryd.sizeOf63
  v37 := Tryd.zeroValue63
  t70 := Tryd.underlying98
  a70 := Tryd.isAgg98
  z70 := Tryd.sizeOf98
  v70 := Tryd.zeroValue98
  t72 := Tryd.underlying100
  a72 := Tryd.isAgg100
  z72 := Tryd.sizeOf100
  v72 := Tryd.zeroValue100
  t127 := Tryd.underlying123
  a127 := Tryd.isAgg123
  z127 := Tryd.sizeOf123
  v127 := Tryd.zeroValue123 }
theorem Tryd.Builder_Extra_169 : Builder.Extra Tryd.prog Tryd.lays169_ren := {
  sizeBuilder := by kernel_rfl
  liesBuilder := by kernel_rfl
  t5 := Tryd.underlying5
  a5 := Tryd.isAgg5
  z5 := Tryd.sizeOf5
  v5 := Tryd.zeroValue5
  infoByte := by kernel_rfl
  cellsByte := by kernel_rfl
  sizeByte := by kernel_rfl
  neB5 := by decide }
open Go.RowKit in
/-- (*strings.Builder).String: "String returns the accumulated string.": WHATEVER THE BUILDER HOLDS. (LAID: no walk: one application.) -/
theorem Tryd.Builder_String_any (B b : Nat) (l : List UInt8) (w : World) (h : Lib.IsBuilder 100 5 B b (Lib.byteCells l) w) (hBw : B ≤ w.heap.size) :
    Calls Tryd.prog 64 #[.pointer (some ⟨b, 0, none⟩)] w fun e w' => e = .returned (.string ⟨l.toArray⟩) ∧ Below B w w' := Any.Builder_String_any Tryd.lays169 Tryd.Builder_Extra_169 B b l w h hBw
def Tryd.lays137_ren : Go.Shelf.Ren := ⟨fun | 137 => 57 | 217 => 83 | 266 => 100 | n => n, fun | 9 => 9 | 5 => 5 | 3 => 3 | n => n, fun | n => n⟩
theorem Tryd.lays137 : Go.Proofs.Lays.n137 Tryd.prog Tryd.lays137_ren := {
  mixed := by kernel_rfl
  f137 := Tryd.func57.trans (congrArg some (by kernel_rfl))
  f217 := Tryd.func83.trans (congrArg some (by kernel_rfl))
  f266 := Tryd.func100.trans (congrArg some (by kernel_rfl))
  t3 := Tryd.underlying3
  a3 := Tryd.isAgg3
  z3 := Tryd.sizeOf3
  v3 := Tryd.zeroValue3
  t5 := Tryd.underlying5
  a5 := Tryd.isAgg5
  z5 := Tryd.sizeOf5
  v5 := Tryd.zeroValue5
  t9 := Tryd.underlying9
  a9 := Tryd.isAgg9
  z9 := Tryd.sizeOf9
  v9 := Tryd.zeroValue9 }
open Go.RowKit in
/-- strings.IndexByte: "IndexByte returns the index of the first instance of c in s, or -1 if c is not present in s.": IT RETURNS 'Lib.indexByte s c'; the world is as it was. (LAID: no walk: one application.) -/
theorem Tryd.strings_IndexByte (s : ByteArray) (c : Int) (w : World) :
    Calls Tryd.prog 57 #[.string s, .int .u8 c] w fun e w' => e = .returned (.int .i64 (Lib.indexByte s.data.toList c.toNat.toUInt8)) ∧ w' = w := Any.strings_IndexByte Tryd.lays137 s c w
def Tryd.laysM171_ren : Go.Shelf.Ren := ⟨fun | 171 => 43 | 243 => 75 | 246 => 96 | 283 => 114 | 284 => 115 | 285 => 116 | 286 => 117 | 129 => 131 | 317 => 130 | 318 => 132 | 319 => 133 | 320 => 134 | 337 => 137 | 338 => 138 | n => n, fun | 3 => 3 | 9 => 9 | 2 => 2 | 4 => 4 | 171 => 139 | 0 => 0 | 53 => 140 | 37 => 63 | 5 => 5 | 173 => 143 | 212 => 155 | 51 => 156 | 20 => 20 | 213 => 157 | 46 => 122 | 232 => 163 | 233 => 164 | n => n, fun | 17 => 3 | 18 => 4 | 19 => 5 | n => n⟩
theorem Tryd.laysM171 : Go.Proofs.LaysM.n171 Tryd.prog Tryd.laysM171_ren := {
  mixed := by kernel_rfl
  f129 := Tryd.func131.trans (congrArg some (by kernel_rfl))
  f171 := Tryd.func43.trans (congrArg some (by kernel_rfl))
  f243 := Tryd.func75.trans (congrArg some (by kernel_rfl))
  f246 := Tryd.func96.trans (congrArg some (by kernel_rfl))
  f283 := Tryd.func114.trans (congrArg some (by kernel_rfl))
  f284 := Tryd.func115.trans (congrArg some (by kernel_rfl))
  f285 := Tryd.func116.trans (congrArg some (by kernel_rfl))
  f286 := Tryd.func117.trans (congrArg some (by kernel_rfl))
  f317 := Tryd.func130.trans (congrArg some (by kernel_rfl))
  f318 := Tryd.func132.trans (congrArg some (by kernel_rfl))
  f319 := Tryd.func133.trans (congrArg some (by kernel_rfl))
  f320 := Tryd.func134.trans (congrArg some (by kernel_rfl))
  f337 := Tryd.func137.trans (congrArg some (by kernel_rfl))
  f338 := Tryd.func138.trans (congrArg some (by kernel_rfl))
  t0 := Tryd.underlying0
  a0 := Tryd.isAgg0
  z0 := Tryd.sizeOf0
  v0 := Tryd.zeroValue0
  t2 := Tryd.underlying2
  a2 := Tryd.isAgg2
  z2 := Tryd.sizeOf2
  v2 := Tryd.zeroValue2
  t3 := Tryd.underlying3
  a3 := Tryd.isAgg3
  z3 := Tryd.sizeOf3
  v3 := Tryd.zeroValue3
  t4 := Tryd.underlying4
  a4 := Tryd.isAgg4
  z4 := Tryd.sizeOf4
  v4 := Tryd.zeroValue4
  t5 := Tryd.underlying5
  a5 := Tryd.isAgg5
  z5 := Tryd.sizeOf5
  v5 := Tryd.zeroValue5
  t9 := Tryd.underlying9
  a9 := Tryd.isAgg9
  z9 := Tryd.sizeOf9
  v9 := Tryd.zeroValue9
  t20 := Tryd.underlying20
  a20 := Tryd.isAgg20
  z20 := Tryd.sizeOf20
  v20 := Tryd.zeroValue20
  t37 := Tryd.underlying63
  a37 := Tryd.isAgg63
  z37 := Tryd.sizeOf63
  v37 := Tryd.zeroValue63
  t46 := Tryd.underlying122
  a46 := Tryd.isAgg122
  z46 := Tryd.sizeOf122
  v46 := Tryd.zeroValue122
  t51 := Tryd.underlying156
  a51 := Tryd.isAgg156
  z51 := Tryd.sizeOf156
  v51 := Tryd.zeroValue156
  t53 := Tryd.underlying140
  a53 := Tryd.isAgg140
  z53 := Tryd.sizeOf140
  v53 := Tryd.zeroValue140
  t171 := Tryd.underlying139
  a171 := Tryd.isAgg139
  z171 := Tryd.sizeOf139
  v171 := Tryd.zeroValue139
  t173 := Tryd.underlying143
  a173 := Tryd.isAgg143
  z173 := Tryd.sizeOf143
  v173 := Tryd.zeroValue143
  t212 := Tryd.underlying155
  a212 := Tryd.isAgg155
  z212 := Tryd.sizeOf155
  v212 := Tryd.zeroValue155
  t213 := Tryd.underlying157
  a213 := Tryd.isAgg157
  z213 := Tryd.sizeOf157
  t232 := Tryd.underlying163
  a232 := Tryd.isAgg163
  z232 := Tryd.sizeOf163
  v232 := Tryd.zeroValue163
  t233 := Tryd.underlying164
  a233 := Tryd.isAgg164
  z233 := Tryd.sizeOf164
  v233 := Tryd.zeroValue164
  g17 := by kernel_rfl
  g18 := by kernel_rfl
  g19 := by kernel_rfl
  i0 := by kernel_rfl
  i2 := by kernel_rfl
  i3 := by kernel_rfl
  i4 := by kernel_rfl
  i5 := by kernel_rfl
  i9 := by kernel_rfl
  i20 := by kernel_rfl
  i37 := by kernel_rfl
  i46 := by kernel_rfl
  i51 := by kernel_rfl
  i53 := by kernel_rfl
  i171 := by kernel_rfl
  i173 := by kernel_rfl
  i212 := by kernel_rfl
  i232 := by kernel_rfl
  i233 := by kernel_rfl
  m17 := by kernel_rfl
  m18 := by kernel_rfl
  m19 := by kernel_rfl }
open Go.RowKit Go.Sort Go.Lib in
/-- strconv.Itoa: "Itoa is equivalent to FormatInt(int64(i), 10).": i's DECIMAL NUMERAL ('Lib.itoa': a '-' where i is negative, then the digits), FOR EVERY int. The world behind the call: the world before it, new blocks behind the heap (the library's 'var a [24]byte'), draws. (LAID: no walk: one application.) -/
theorem Tryd.strconv_Itoa (n : Int) (h0 : -9223372036854775808 ≤ n) (h1 : n ≤ 9223372036854775807) (w : World) (htab : Lib.TabIs Tryd.prog w "internal/strconv.uint64pow10" .u64 Lib.pow10Tab) :
    Calls Tryd.prog 43 #[.int .i64 n] w fun e w' => e = .returned (.string ⟨(Lib.itoa n).toArray⟩) ∧ ∃ k os, w' = grow (w.drewN k) os := Any.strconv_Itoa Tryd.laysM171 n h0 h1 w htab
def Tryd.lays143_ren : Go.Shelf.Ren := ⟨fun | 143 => 88 | 219 => 105 | 217 => 83 | 225 => 123 | 224 => 122 | 267 => 124 | 266 => 100 | 314 => 135 | n => n, fun | 9 => 9 | 3 => 3 | 4 => 4 | 5 => 5 | 46 => 122 | 146 => 159 | 51 => 156 | n => n, fun | 1 => 2 | n => n⟩
theorem Tryd.lays143 : Go.Proofs.Lays.n143 Tryd.prog Tryd.lays143_ren := {
  mixed := by kernel_rfl
  f143 := Tryd.func88.trans (congrArg some (by kernel_rfl))
  f217 := Tryd.func83.trans (congrArg some (by kernel_rfl))
  f219 := Tryd.func105.trans (congrArg some (by kernel_rfl))
  f224 := Tryd.func122.trans (congrArg some (by kernel_rfl))
  f225 := Tryd.func123.trans (congrArg some (by kernel_rfl))
  f266 := Tryd.func100.trans (congrArg some (by kernel_rfl))
  f267 := Tryd.func124.trans (congrArg some (by kernel_rfl))
  f314 := Tryd.func135.trans (congrArg some (by kernel_rfl))
  t3 := Tryd.underlying3
  a3 := Tryd.isAgg3
  z3 := Tryd.sizeOf3
  v3 := Tryd.zeroValue3
  t4 := Tryd.underlying4
  a4 := Tryd.isAgg4
  z4 := Tryd.sizeOf4
  v4 := Tryd.zeroValue4
  t5 := Tryd.underlying5
  a5 := Tryd.isAgg5
  z5 := Tryd.sizeOf5
  v5 := Tryd.zeroValue5
  t9 := Tryd.underlying9
  a9 := Tryd.isAgg9
  z9 := Tryd.sizeOf9
  v9 := Tryd.zeroValue9
  t46 := Tryd.underlying122
  a46 := Tryd.isAgg122
  z46 := Tryd.sizeOf122
  v46 := Tryd.zeroValue122
  t51 := Tryd.underlying156
  a51 := Tryd.isAgg156
  z51 := Tryd.sizeOf156
  v51 := Tryd.zeroValue156
  t146 := Tryd.underlying159
  a146 := Tryd.isAgg159
  z146 := Tryd.sizeOf159
  v146 := Tryd.zeroValue159
  g1 := by kernel_rfl }
open Go.RowKit Go.Lib in
/-- strings.Index: "Index returns the index of the first instance of substr in s, or -1 if substr is not present in s.": AT A substr OF ONE BYTE c: IT RETURNS 'Lib.indexByte s c'; the world is as it was. (LAID: no walk: one application.) -/
theorem Tryd.strings_Index_one (s : ByteArray) (c : UInt8) (w : World) :
    Calls Tryd.prog 88 #[.string s, .string ⟨#[c]⟩] w fun e w' => e = .returned (.int .i64 (Lib.indexByte s.data.toList c)) ∧ w' = w := Any.strings_Index_one Tryd.lays143 s c w
open Go.RowKit Go.Lib in
/-- strings.Index: "Index returns the index of the first instance of substr in s, or -1 if substr is not present in s.": IT RETURNS 'Lib.index s substr'; the world is as it was. (LAID: no walk: one application.) -/
theorem Tryd.strings_Index (s sub : ByteArray) (m : Int) (w : World) (hs : s.size < 4294967281) (hm : w.cell? ⟨2, 0, none⟩ = some (.int .i64 m)) :
    Calls Tryd.prog 88 #[.string s, .string sub] w fun e w' => e = .returned (.int .i64 (Lib.index s.data.toList sub.data.toList)) ∧ w' = w := Any.strings_Index Tryd.lays143 s sub m w hs hm
def Tryd.lays144_ren : Go.Shelf.Ren := ⟨fun | 144 => 76 | 143 => 88 | 219 => 105 | 217 => 83 | 225 => 123 | 224 => 122 | 267 => 124 | 266 => 100 | 314 => 135 | n => n, fun | 9 => 9 | 4 => 4 | 3 => 3 | 5 => 5 | 46 => 122 | 146 => 159 | 51 => 156 | n => n, fun | 1 => 2 | n => n⟩
theorem Tryd.lays144 : Go.Proofs.Lays.n144 Tryd.prog Tryd.lays144_ren := {
  mixed := by kernel_rfl
  f143 := Tryd.func88.trans (congrArg some (by kernel_rfl))
  f144 := Tryd.func76.trans (congrArg some (by kernel_rfl))
  f217 := Tryd.func83.trans (congrArg some (by kernel_rfl))
  f219 := Tryd.func105.trans (congrArg some (by kernel_rfl))
  f224 := Tryd.func122.trans (congrArg some (by kernel_rfl))
  f225 := Tryd.func123.trans (congrArg some (by kernel_rfl))
  f266 := Tryd.func100.trans (congrArg some (by kernel_rfl))
  f267 := Tryd.func124.trans (congrArg some (by kernel_rfl))
  f314 := Tryd.func135.trans (congrArg some (by kernel_rfl))
  t3 := Tryd.underlying3
  a3 := Tryd.isAgg3
  z3 := Tryd.sizeOf3
  v3 := Tryd.zeroValue3
  t4 := Tryd.underlying4
  a4 := Tryd.isAgg4
  z4 := Tryd.sizeOf4
  v4 := Tryd.zeroValue4
  t5 := Tryd.underlying5
  a5 := Tryd.isAgg5
  z5 := Tryd.sizeOf5
  v5 := Tryd.zeroValue5
  t9 := Tryd.underlying9
  a9 := Tryd.isAgg9
  z9 := Tryd.sizeOf9
  v9 := Tryd.zeroValue9
  t46 := Tryd.underlying122
  a46 := Tryd.isAgg122
  z46 := Tryd.sizeOf122
  v46 := Tryd.zeroValue122
  t51 := Tryd.underlying156
  a51 := Tryd.isAgg156
  z51 := Tryd.sizeOf156
  v51 := Tryd.zeroValue156
  t146 := Tryd.underlying159
  a146 := Tryd.isAgg159
  z146 := Tryd.sizeOf159
  v146 := Tryd.zeroValue159
  g1 := by kernel_rfl }
open Go.RowKit Go.Lib in
/-- strings.Contains: "Contains reports whether substr is within s.": IT RETURNS 'Lib.contains s substr'; the world is as it was. (LAID: no walk: one application.) -/
theorem Tryd.strings_Contains (s sub : ByteArray) (m : Int) (w : World) (hs : s.size < 4294967281) (hm : w.cell? ⟨2, 0, none⟩ = some (.int .i64 m)) :
    Calls Tryd.prog 76 #[.string s, .string sub] w fun e w' => e = .returned (.bool (Lib.contains s.data.toList sub.data.toList)) ∧ w' = w := Any.strings_Contains Tryd.lays144 s sub m w hs hm
end Go.Proofs
end
section
namespace Go.Proofs.YtofdhdafabmhmaaDoor.PLf4
open Go.RowKit Go.Proofs.YtofdhdafabmhmaaDoorW.PrintWords Go.Proofs.YtofdhdafabmhmaaDoorW.PrintLast Go.Proofs.YtofdhdafabmhmaaDoorW.PrintMore
attribute [local go_sem] max2_int min2_int max_two min_two max_three min_three max_four min_four
open Go.Proofs.YtofdhdafabmhmaaDoor.Opn Go.Proofs.YtofdhdafabmhmaaDoor.Giv
set_option maxRecDepth 100000

/-! ### ident_Lower: function 71 -/
def ident_Lower.low (c : Int) : Int := if c ≥ 65 then (if c ≤ 90 then c + 32 else c) else c
def ident_Lower.at (s : ByteArray) (i j : Nat) : Int := if j < i then ident_Lower.low (bt s j) else bt s j
def ident_Lower.f (s : ByteArray) : Option ByteArray := if s.size ≤ 140737488351232 then some (strOfNums ((List.range s.size).map fun j => ident_Lower.low (bt s (j : Nat)))) else none
structure ident_Lower.Holds (w w1 : World) (g : Nat) (s : ByteArray) (i : Nat) : Prop where
 lo : w.heap.size ≤ g
 b : Below w.heap.size w w1
 o : ∃ cs lo hi, w1.heap[g]? = some (.cells cs 5 (lo, hi)) ∧ (∀ j, j < s.size → cs[j]? = some (.int .u8 (ident_Lower.at s i j))) ∧ s.size ≤ lo
theorem ident_Lower.Holds.cell {w w1 : World} {g : Nat} {s : ByteArray} {i : Nat} (h : ident_Lower.Holds w w1 g s i) {j : Nat} (hj : j < s.size) : w1.cell? ⟨g, j, none⟩ = some (.int .u8 (ident_Lower.at s i j)) := by
 obtain ⟨cs, lo, hi, h1, h2, h3⟩ := h.o; rw [cell_of_row _ _ _ _ _ _ h1]; exact h2 j hj
theorem ident_Lower.Holds.froz {w w1 : World} {g : Nat} {s : ByteArray} {i : Nat} (h : ident_Lower.Holds w w1 g s i) {j : Nat} (hj : j < s.size) : w1.frozen? ⟨g, j, none⟩ = false := by
 obtain ⟨cs, lo, hi, h1, h2, h3⟩ := h.o; have : ¬ lo ≤ j := by omega
 simp [World.frozen?, h1, this]
theorem ident_Lower.Holds.start (w : World) (s : ByteArray) : ident_Lower.Holds w (Lib.bytesWorld w 5 s) w.heap.size s 0 := by
 refine ⟨Nat.le_refl _, bytes_below (Below.refl _ _) (Nat.le_refl _) _ s, _, _, _, Lib.bytesWorld_at_new w _ s, fun j hj => ?_, ?_⟩
 ·have h := Lib.bytesWorld_cell w 5 s j hj; rw [cell_of_row _ _ _ _ _ _ (Lib.bytesWorld_at_new w _ s)] at h; rw [h]; have hb : ident_Lower.at s 0 j = bt s j := by simp [ident_Lower.at]
  rw [hb, ← bt_at s (j : Int) (by simpa using hj)]; simp [List.getD_eq_getElem?_getD, hj]
  rfl
 simp [Lib.bytesCells]
theorem ident_Lower.Holds.drewN {w w1 : World} {g : Nat} {s : ByteArray} {i : Nat} (h : ident_Lower.Holds w w1 g s i) (n : Nat) : ident_Lower.Holds w (w1.drewN n) g s i :=
 ⟨h.lo, h.b.trans ⟨rfl, rfl, rfl, Nat.le_refl _, fun _ _ => rfl⟩, h.o⟩
theorem ident_Lower.Holds.skip {w w1 : World} {g : Nat} {s : ByteArray} {i : Nat} (h : ident_Lower.Holds w w1 g s i) (he : ident_Lower.low (bt s (i : Nat)) = bt s (i : Nat)) : ident_Lower.Holds w w1 g s (i + 1) := by
 obtain ⟨cs, lo, hi, h1, h2, h3⟩ := h.o; refine ⟨h.lo, h.b, cs, lo, hi, h1, fun j hj => ?_, h3⟩
 rw [h2 j hj]; congr 2
 unfold ident_Lower.at; rcases Nat.lt_trichotomy j i with h4 | rfl | h4
 ·rw [if_pos h4, if_pos (by omega)]
 ·rw [if_neg (by omega), if_pos (by omega), he]
 rw [if_neg (by omega), if_neg (by omega)]
theorem ident_Lower.Holds.set {w w1 : World} {g : Nat} {s : ByteArray} {i : Nat} (h : ident_Lower.Holds w w1 g s i) (v : Int) (hv : v = ident_Lower.low (bt s (i : Nat))) : ident_Lower.Holds w (w1.setCell ⟨g, i, none⟩ (.int .u8 v)) g s (i + 1) := by
 obtain ⟨cs, lo, hi, h1, h2, h3⟩ := h.o; refine ⟨h.lo, below_set h.b h.lo, cs.setIfInBounds i (.int .u8 v), lo, hi, ?_, fun j hj => ?_, h3⟩
 ·simp [World.setCell, Array.getElem?_modify, h1]
 unfold ident_Lower.at; rcases Nat.lt_trichotomy j i with h4 | rfl | h4
 ·rw [Array.getElem?_setIfInBounds_ne (by omega), h2 j hj, if_pos (by omega)]; unfold ident_Lower.at; rw [if_pos h4]
 ·have hs : j < cs.size := (Array.getElem?_eq_some_iff.1 (h2 j hj)).1; rw [Array.getElem?_setIfInBounds_self_of_lt hs, if_pos (by omega), hv]
 rw [Array.getElem?_setIfInBounds_ne (by omega), h2 j hj, if_neg (by omega)]; unfold ident_Lower.at; rw [if_neg (by omega)]
theorem ident_Lower.Holds.read {w w1 : World} {g : Nat} {s : ByteArray} (h : ident_Lower.Holds w w1 g s s.size) (hs : s.size ≤ 140737488351232) (c : Nat) :
  (convert 63 9 (.slice (some ⟨g, 0, none⟩) s.size c)).run Tryd.prog w1 = .ok (.string (strOfNums ((List.range s.size).map fun j => ident_Lower.low (bt s (j : Nat))))) w1 := by
 refine string_of_reads Tryd.underlying63 Tryd.underlying5 Tryd.underlying9 ⟨by simp, by omega, fun _ => ⟨_, rfl, fun j hj => ?_⟩⟩
 rw [add_plain, h.cell hj]; simp [ident_Lower.at, hj, List.getD_eq_getElem?_getD]
theorem ident_Lower.next {i n : Nat} (h1 : i < n) (hs : n ≤ 140737488351232) : wrap64 ((i : Int) + 1) = ((i + 1 : Nat) : Int) := by
 unfold wrap64; omega
theorem ident_Lower.less {i n : Nat} (h1 : i < n) (hw : wrap64 ((i : Int) + 1) = ((i + 1 : Nat) : Int)) : n - (intOf (.int .i64 (wrap64 ((i : Int) + 1)))).toNat < n - (intOf (.int .i64 (i : Int))).toNat := by
 rw [hw]; show n - (((i + 1 : Nat) : Int)).toNat < n - ((i : Int)).toNat
 rw [Int.toNat_natCast, Int.toNat_natCast]; clear hw; omega

set_option maxHeartbeats 400000 in
theorem ident_Lower.calls (s : ByteArray) (r : ByteArray) (w : World) (h : ident_Lower.f s = some r) :
  Calls Tryd.prog 71 #[.string s] w fun e w' => e = .returned (.string r) ∧ Below w.heap.size w w' := by
 unfold ident_Lower.f at h; by_cases hs : s.size ≤ 140737488351232
 ·rw [if_pos hs] at h; have HR := am_ (si_ h); have HS := am_ hs; clear h hs; have kb := fun W => print_bytes (P := Tryd.prog) 9 63 5 Tryd.underlying9 Tryd.underlying63 Tryd.underlying5 s W
  go_enter Tryd.func71, Tryd.ntmps71
  go_wp2; go_loopw [9] (fun v9 wr => ∃ (i : Nat), i ≤ s.size ∧ v9 = .int .i64 i ∧ Aside0 (ident_Lower.Holds w wr w.heap.size s i)) (fun v9 _ => s.size - (intOf v9).toNat)
  case atStart => exact ⟨0, Nat.zero_le _, rfl, ⟨ident_Lower.Holds.start w s⟩⟩
  case round =>
   clear kb; obtain ⟨i, hi, rfl, HH⟩ := hrel; by_cases hlt : i < s.size
   ·have q0 : (0 ≤ (i : Int)) = True := eq_true (by omega); have q1 : ((i : Int) < (s.size : Int)) = True := eq_true (by omega); have q2 : decide ((i : Int) < (s.size : Int)) = true := dt_ (by omega); have q3 : decide (i < s.size) = true := dt_ hlt; have q4 : (i < s.size) = True := eq_true hlt; have hx : wr.cell? ⟨w.heap.size, i, none⟩ = some (.int .u8 (bt s (i : Nat))) := by
     rw [HH.out.cell hlt]; simp [ident_Lower.at]
    have hz := HH.out.froz hlt; have H1 := am_ hlt; have HW := am_ (ident_Lower.next hlt HS.out); have hA := add_plain w.heap.size i; clear hlt hi; by_cases c1 : bt s (i : Nat) ≥ 65
    ·have c1b : decide (65 ≤ bt s (i : Nat)) = true := dt_ c1; by_cases c2 : bt s (i : Nat) ≤ 90
     ·have c2b : decide (bt s (i : Nat) ≤ 90) = true := dt_ c2; have HV : Aside0 ((bt s (i : Nat) + 32) % 256 = ident_Lower.low (bt s (i : Nat))) := ⟨by unfold ident_Lower.low; rw [if_pos c1, if_pos c2]; omega⟩
      clear c1 c2; go_wp2; go_roundw
      case rel => exact ⟨i + 1, H1.out, by rw [HW.out], ⟨HH.out.set _ HV.out⟩⟩
      case measure => exact ident_Lower.less H1.out HW.out
     have c2b : decide (bt s (i : Nat) ≤ 90) = false := df_ c2; have HV : Aside0 (ident_Lower.low (bt s (i : Nat)) = bt s (i : Nat)) := ⟨by unfold ident_Lower.low; rw [if_pos c1, if_neg c2]⟩
     clear c1 c2; go_wp2; go_roundw
     case rel => exact ⟨i + 1, H1.out, by rw [HW.out], ⟨HH.out.skip HV.out⟩⟩
     case measure => exact ident_Lower.less H1.out HW.out
    have c1b : decide (65 ≤ bt s (i : Nat)) = false := df_ c1; have HV : Aside0 (ident_Lower.low (bt s (i : Nat)) = bt s (i : Nat)) := ⟨by unfold ident_Lower.low; rw [if_neg c1]⟩
    clear c1; go_wp2; go_roundw
    case rel => exact ⟨i + 1, H1.out, by rw [HW.out], ⟨HH.out.skip HV.out⟩⟩
    case measure => exact ident_Lower.less H1.out HW.out
   have hie : i = s.size := by omega
   subst hie; have q2 : decide ((s.size : Int) < (s.size : Int)) = false := df_ (by omega); have q3 : decide (s.size < s.size) = false := df_ (by omega); have hk := HH.out.read HS.out (grownCap w s.size 0 5); clear hlt; rw [HR.out] at hk; go_wp2; go_ret
   exact ⟨rfl, HH.out.b⟩
 rw [if_neg hs] at h; cases h

/-! ### strings_IndexByte: function 57 -/
def strings_IndexByte.f (a0 : ByteArray) (a1 : Int) : Option (Int) := some (Lib.indexByte a0.data.toList a1.toNat.toUInt8)
theorem strings_IndexByte.calls (a0 : ByteArray) (a1 : Int) (r : Int) (w : World) (h : strings_IndexByte.f a0 a1 = some r) :
  Calls Tryd.prog 57 #[.string a0, .int .u8 a1] w fun e w' => e = .returned (.int .i64 r) ∧ Drawn0 w w' := by
 refine (Tryd.strings_IndexByte a0 a1 w).mono ?_
 rintro e w' ⟨rfl, rfl⟩
 exact ⟨by rw [si_ h], Drawn0.refl _⟩

/-! ### ident_Name: function 72 -/
def ident_Name.f (a0 : ByteArray) : Option (Bool) := if a0.toList = ([] : List UInt8) then (some false) else (if (a0.size : Int) ≤ 64 then ((strings_IndexByte.f a0 0).bind fun t101 => (some (decide (t101 < 0)))) else (some false))
set_option maxHeartbeats 8000000 in
theorem ident_Name.calls (a0 : ByteArray) (r : Bool) (w : World) (h : ident_Name.f a0 = some r) :
  Calls Tryd.prog 72 #[.string a0] w fun e w' => e = .returned (.bool r) ∧ Drawn0 w w' := by
 have H : (if a0.toList = ([] : List UInt8) then (some false) else (if (a0.size : Int) ≤ 64 then ((strings_IndexByte.f a0 0).bind fun t101 => (some (decide (t101 < 0)))) else (some false))) = some r := h; clear h; by_cases c2 : a0.toList = ([] : List UInt8)
 ·rw [if_pos c2] at H; have c2b0 : (a0.toList == ([] : List UInt8)) = true := beq_iff_eq.mpr c2; have c2b1 : (a0.toList != ([] : List UInt8)) = false := bne_eq_false_iff_eq.mpr c2; clear c2; obtain rfl := si_ H; go_enter Tryd.func72, Tryd.ntmps72
  go_wp2; go_ret
  exact ⟨by first | rfl | (simp; done) | (simp [*]; done), drs_⟩
 rw [if_neg c2] at H; have c2b0 : (a0.toList == ([] : List UInt8)) = false := beq_eq_false_iff_ne.mpr c2; have c2b1 : (a0.toList != ([] : List UInt8)) = true := bne_iff_ne.mpr c2; by_cases c3 : (a0.size : Int) ≤ 64
 ·rw [if_pos c3] at H; have c3b0 : decide ((a0.size : Int) ≤ 64) = true := dt_ c3; have c3b1 : decide (a0.size ≤ 64) = true := dt_ (by omega); clear c3; replace H := bs_ H; obtain ⟨t101, A40, H⟩ := H; try dsimp only at H
  have A4 := am_ A40; clear A40; obtain rfl := si_ H; go_enter Tryd.func72, Tryd.ntmps72
  go_wp2_with (first | (go_at_call 57; (with_reducible refine (strings_IndexByte.calls a0 0 t101 _ A4.out).mono ?_); rintro e w' ⟨rfl, ⟨nd, rfl⟩⟩))
  go_ret
  exact ⟨by first | rfl | (simp; done) | (simp [*]; done), drs_⟩
 rw [if_neg c3] at H; have c3b0 : decide ((a0.size : Int) ≤ 64) = false := df_ c3; have c3b1 : decide (a0.size ≤ 64) = false := df_ (by omega); clear c3; obtain rfl := si_ H; go_enter Tryd.func72, Tryd.ntmps72
 go_wp2; go_ret
 exact ⟨by first | rfl | (simp; done) | (simp [*]; done), drs_⟩

/-! ### ident_Custom: function 40 -/
def ident_Custom.f (a0 : ByteArray) : Option (Bool) := (ident_Lower.f a0).bind fun t102 => (if t102.toList = ([115, 112, 97, 110] : List UInt8) then (some false) else (if t102.toList = ([97, 117, 116, 111] : List UInt8) then (some false) else (if t102.toList = ([105, 110, 105, 116, 105, 97, 108] : List UInt8) then (some false) else (if t102.toList = ([105, 110, 104, 101, 114, 105, 116] : List UInt8) then (some false) else (if t102.toList = ([117, 110, 115, 101, 116] : List UInt8) then (some false) else (if t102.toList = ([100, 101, 102, 97, 117, 108, 116] : List UInt8) then (some false) else (if t102.toList = ([114, 101, 118, 101, 114, 116] : List UInt8) then (some false) else ((ident_Name.f a0).bind fun t103 => (some t103)))))))))
set_option maxHeartbeats 8000000 in
theorem ident_Custom.calls (a0 : ByteArray) (r : Bool) (w : World) (h : ident_Custom.f a0 = some r) :
  Calls Tryd.prog 40 #[.string a0] w fun e w' => e = .returned (.bool r) ∧ Below w.heap.size w w' := by
 have HB := am_ (Below.refl w.heap.size w); have H : ((ident_Lower.f a0).bind fun t102 => (if t102.toList = ([115, 112, 97, 110] : List UInt8) then (some false) else (if t102.toList = ([97, 117, 116, 111] : List UInt8) then (some false) else (if t102.toList = ([105, 110, 105, 116, 105, 97, 108] : List UInt8) then (some false) else (if t102.toList = ([105, 110, 104, 101, 114, 105, 116] : List UInt8) then (some false) else (if t102.toList = ([117, 110, 115, 101, 116] : List UInt8) then (some false) else (if t102.toList = ([100, 101, 102, 97, 117, 108, 116] : List UInt8) then (some false) else (if t102.toList = ([114, 101, 118, 101, 114, 116] : List UInt8) then (some false) else ((ident_Name.f a0).bind fun t103 => (some t103)))))))))) = some r := h; clear h; replace H := bs_ H; obtain ⟨t102, A20, H⟩ := H; try dsimp only at H
 have A2 := am_ A20; clear A20; by_cases c3 : t102.toList = ([115, 112, 97, 110] : List UInt8)
 ·rw [if_pos c3] at H; have c3b0 : (t102.toList == ([115, 112, 97, 110] : List UInt8)) = true := beq_iff_eq.mpr c3; have c3b1 : (t102.toList != ([115, 112, 97, 110] : List UInt8)) = false := bne_eq_false_iff_eq.mpr c3; clear c3; obtain rfl := si_ H; go_enter Tryd.func40, Tryd.ntmps40
  go_wp2_with (first | ((with_reducible refine gate_callee (f := 71) rfl ?_); refine goesL_ (some 4) rfl rfl Tryd.func71 (by kernel_rfl) rfl #[.string a0] rfl goa_ ?_; (with_reducible refine (ident_Lower.calls a0 t102 _ A2.out).mono ?_); rintro e w4 ⟨rfl, hb⟩; refine ⟨_, rfl, ?_⟩; replace HB := am_ (below_step bel_ hb); clear hb))
  go_ret
  exact ⟨rsl_, bel_⟩
 rw [if_neg c3] at H; have c3b0 : (t102.toList == ([115, 112, 97, 110] : List UInt8)) = false := beq_eq_false_iff_ne.mpr c3; have c3b1 : (t102.toList != ([115, 112, 97, 110] : List UInt8)) = true := bne_iff_ne.mpr c3; by_cases c5 : t102.toList = ([97, 117, 116, 111] : List UInt8)
 ·rw [if_pos c5] at H; have c5b0 : (t102.toList == ([97, 117, 116, 111] : List UInt8)) = true := beq_iff_eq.mpr c5; have c5b1 : (t102.toList != ([97, 117, 116, 111] : List UInt8)) = false := bne_eq_false_iff_eq.mpr c5; clear c5; obtain rfl := si_ H; go_enter Tryd.func40, Tryd.ntmps40
  go_wp2_with (first | ((with_reducible refine gate_callee (f := 71) rfl ?_); refine goesL_ (some 4) rfl rfl Tryd.func71 (by kernel_rfl) rfl #[.string a0] rfl goa_ ?_; (with_reducible refine (ident_Lower.calls a0 t102 _ A2.out).mono ?_); rintro e w6 ⟨rfl, hb⟩; refine ⟨_, rfl, ?_⟩; replace HB := am_ (below_step bel_ hb); clear hb))
  go_ret
  exact ⟨rsl_, bel_⟩
 rw [if_neg c5] at H; have c5b0 : (t102.toList == ([97, 117, 116, 111] : List UInt8)) = false := beq_eq_false_iff_ne.mpr c5; have c5b1 : (t102.toList != ([97, 117, 116, 111] : List UInt8)) = true := bne_iff_ne.mpr c5; by_cases c7 : t102.toList = ([105, 110, 105, 116, 105, 97, 108] : List UInt8)
 ·rw [if_pos c7] at H; have c7b0 : (t102.toList == ([105, 110, 105, 116, 105, 97, 108] : List UInt8)) = true := beq_iff_eq.mpr c7; have c7b1 : (t102.toList != ([105, 110, 105, 116, 105, 97, 108] : List UInt8)) = false := bne_eq_false_iff_eq.mpr c7; clear c7; obtain rfl := si_ H; go_enter Tryd.func40, Tryd.ntmps40
  go_wp2_with (first | ((with_reducible refine gate_callee (f := 71) rfl ?_); refine goesL_ (some 4) rfl rfl Tryd.func71 (by kernel_rfl) rfl #[.string a0] rfl goa_ ?_; (with_reducible refine (ident_Lower.calls a0 t102 _ A2.out).mono ?_); rintro e w8 ⟨rfl, hb⟩; refine ⟨_, rfl, ?_⟩; replace HB := am_ (below_step bel_ hb); clear hb))
  go_ret
  exact ⟨rsl_, bel_⟩
 rw [if_neg c7] at H; have c7b0 : (t102.toList == ([105, 110, 105, 116, 105, 97, 108] : List UInt8)) = false := beq_eq_false_iff_ne.mpr c7; have c7b1 : (t102.toList != ([105, 110, 105, 116, 105, 97, 108] : List UInt8)) = true := bne_iff_ne.mpr c7; by_cases c9 : t102.toList = ([105, 110, 104, 101, 114, 105, 116] : List UInt8)
 ·rw [if_pos c9] at H; have c9b0 : (t102.toList == ([105, 110, 104, 101, 114, 105, 116] : List UInt8)) = true := beq_iff_eq.mpr c9; have c9b1 : (t102.toList != ([105, 110, 104, 101, 114, 105, 116] : List UInt8)) = false := bne_eq_false_iff_eq.mpr c9; clear c9; obtain rfl := si_ H; go_enter Tryd.func40, Tryd.ntmps40
  go_wp2_with (first | ((with_reducible refine gate_callee (f := 71) rfl ?_); refine goesL_ (some 4) rfl rfl Tryd.func71 (by kernel_rfl) rfl #[.string a0] rfl goa_ ?_; (with_reducible refine (ident_Lower.calls a0 t102 _ A2.out).mono ?_); rintro e w10 ⟨rfl, hb⟩; refine ⟨_, rfl, ?_⟩; replace HB := am_ (below_step bel_ hb); clear hb))
  go_ret
  exact ⟨rsl_, bel_⟩
 rw [if_neg c9] at H; have c9b0 : (t102.toList == ([105, 110, 104, 101, 114, 105, 116] : List UInt8)) = false := beq_eq_false_iff_ne.mpr c9; have c9b1 : (t102.toList != ([105, 110, 104, 101, 114, 105, 116] : List UInt8)) = true := bne_iff_ne.mpr c9; by_cases c11 : t102.toList = ([117, 110, 115, 101, 116] : List UInt8)
 ·rw [if_pos c11] at H; have c11b0 : (t102.toList == ([117, 110, 115, 101, 116] : List UInt8)) = true := beq_iff_eq.mpr c11; have c11b1 : (t102.toList != ([117, 110, 115, 101, 116] : List UInt8)) = false := bne_eq_false_iff_eq.mpr c11; clear c11; obtain rfl := si_ H; go_enter Tryd.func40, Tryd.ntmps40
  go_wp2_with (first | ((with_reducible refine gate_callee (f := 71) rfl ?_); refine goesL_ (some 4) rfl rfl Tryd.func71 (by kernel_rfl) rfl #[.string a0] rfl goa_ ?_; (with_reducible refine (ident_Lower.calls a0 t102 _ A2.out).mono ?_); rintro e w12 ⟨rfl, hb⟩; refine ⟨_, rfl, ?_⟩; replace HB := am_ (below_step bel_ hb); clear hb))
  go_ret
  exact ⟨rsl_, bel_⟩
 rw [if_neg c11] at H; have c11b0 : (t102.toList == ([117, 110, 115, 101, 116] : List UInt8)) = false := beq_eq_false_iff_ne.mpr c11; have c11b1 : (t102.toList != ([117, 110, 115, 101, 116] : List UInt8)) = true := bne_iff_ne.mpr c11; by_cases c13 : t102.toList = ([100, 101, 102, 97, 117, 108, 116] : List UInt8)
 ·rw [if_pos c13] at H; have c13b0 : (t102.toList == ([100, 101, 102, 97, 117, 108, 116] : List UInt8)) = true := beq_iff_eq.mpr c13; have c13b1 : (t102.toList != ([100, 101, 102, 97, 117, 108, 116] : List UInt8)) = false := bne_eq_false_iff_eq.mpr c13; clear c13; obtain rfl := si_ H; go_enter Tryd.func40, Tryd.ntmps40
  go_wp2_with (first | ((with_reducible refine gate_callee (f := 71) rfl ?_); refine goesL_ (some 4) rfl rfl Tryd.func71 (by kernel_rfl) rfl #[.string a0] rfl goa_ ?_; (with_reducible refine (ident_Lower.calls a0 t102 _ A2.out).mono ?_); rintro e w14 ⟨rfl, hb⟩; refine ⟨_, rfl, ?_⟩; replace HB := am_ (below_step bel_ hb); clear hb))
  go_ret
  exact ⟨rsl_, bel_⟩
 rw [if_neg c13] at H; have c13b0 : (t102.toList == ([100, 101, 102, 97, 117, 108, 116] : List UInt8)) = false := beq_eq_false_iff_ne.mpr c13; have c13b1 : (t102.toList != ([100, 101, 102, 97, 117, 108, 116] : List UInt8)) = true := bne_iff_ne.mpr c13; by_cases c15 : t102.toList = ([114, 101, 118, 101, 114, 116] : List UInt8)
 ·rw [if_pos c15] at H; have c15b0 : (t102.toList == ([114, 101, 118, 101, 114, 116] : List UInt8)) = true := beq_iff_eq.mpr c15; have c15b1 : (t102.toList != ([114, 101, 118, 101, 114, 116] : List UInt8)) = false := bne_eq_false_iff_eq.mpr c15; clear c15; obtain rfl := si_ H; go_enter Tryd.func40, Tryd.ntmps40
  go_wp2_with (first | ((with_reducible refine gate_callee (f := 71) rfl ?_); refine goesL_ (some 4) rfl rfl Tryd.func71 (by kernel_rfl) rfl #[.string a0] rfl goa_ ?_; (with_reducible refine (ident_Lower.calls a0 t102 _ A2.out).mono ?_); rintro e w16 ⟨rfl, hb⟩; refine ⟨_, rfl, ?_⟩; replace HB := am_ (below_step bel_ hb); clear hb))
  go_ret
  exact ⟨rsl_, bel_⟩
 rw [if_neg c15] at H; have c15b0 : (t102.toList == ([114, 101, 118, 101, 114, 116] : List UInt8)) = false := beq_eq_false_iff_ne.mpr c15; have c15b1 : (t102.toList != ([114, 101, 118, 101, 114, 116] : List UInt8)) = true := bne_iff_ne.mpr c15; replace H := bs_ H; obtain ⟨t103, A170, H⟩ := H; try dsimp only at H
 have A17 := am_ A170; clear A170; obtain rfl := si_ H; go_enter Tryd.func40, Tryd.ntmps40
 go_wp2_with (first | ((with_reducible refine gate_callee (f := 71) rfl ?_); refine goesL_ (some 4) rfl rfl Tryd.func71 (by kernel_rfl) rfl #[.string a0] rfl goa_ ?_; (with_reducible refine (ident_Lower.calls a0 t102 _ A2.out).mono ?_); rintro e w18 ⟨rfl, hb⟩; refine ⟨_, rfl, ?_⟩; replace HB := am_ (below_step bel_ hb); clear hb) | ((with_reducible refine gate_callee (f := 72) rfl ?_); refine goesL_ (some 14) rfl rfl Tryd.func72 (by kernel_rfl) rfl #[.string a0] rfl goa_ ?_; (with_reducible refine (ident_Name.calls a0 t103 _ A17.out).mono ?_); rintro e w' ⟨rfl, ⟨nd, rfl⟩⟩; refine ⟨_, rfl, ?_⟩))
 go_ret
 exact ⟨rsl_, bel_⟩

/-! ### line_auto: function 41 -/
def line_auto.f  : Option (Int × Int × ByteArray) := some (1, 0, (⟨#[]⟩ : ByteArray))
set_option maxHeartbeats 8000000 in
theorem line_auto.calls  (r1 : Int) (r2 : Int) (r3 : ByteArray) (w : World) (h : line_auto.f  = some (r1, r2, r3)) :
  Calls Tryd.prog 41 #[] w fun e w' => e = .returned (.agg #[.int .i64 r1, .int .i64 r2, .string r3]) ∧ Below w.heap.size w w' := by
 have hu41 := Tryd.underlying41; have HB := am_ (Below.refl w.heap.size w); have H : (some (1, 0, (⟨#[]⟩ : ByteArray))) = some (r1, r2, r3) := h; clear h; simp only [Option.some.injEq, Prod.mk.injEq] at H; obtain ⟨rfl, rfl, rfl⟩ := H; go_enter Tryd.func41, Tryd.ntmps41
 go_wp2_with (first | ((with_reducible refine gate_dst (N := 0) rfl ?_); refine box_event ?hg (N := 0) ?hd (cs := #[.int .i64 0, .int .i64 0, .string (⟨#[]⟩ : ByteArray)]) (t := 41) ?hr ?_; (case hd => rfl); (case hg => rfl); (case hr => first | (go_simp; done) | (go_simp; rfl)); intro gb104 hg w1 hbox hb; have BK104 := am_ (hbox); have GW104 := am_ ((bsz_ hg : w.heap.size ≤ gb104)); have GE104 := am_ ((bsz_ hg : w.heap.size ≤ gb104)); replace HB := am_ (below_step bel_ hb); clear hb hbox hg; obtain ⟨hcz2_0, hcz2_1, hcz2_2⟩ := c3_ BK104; obtain ⟨hfz2_0, hfz2_1, hfz2_2⟩ := f3_ BK104))
 refine bodyPost_ret (results_cell_row rfl _ _ gb104 41 #[.int .i64 1, .int .i64 0, .string (⟨#[]⟩ : ByteArray)] (0, 0) _ rfl (bch_) Tryd.underlying41 rfl (by kernel_rfl)) rfl ?_
 exact ⟨rsl_, bel_⟩


attribute [local go_sem high] eqA41
/-! ### line_Good: function 19 -/
def line_Good.j0 : Nat → Bool → Int → Int → ByteArray → Option (Bool)
 | 0, _, _, _, _ => none
 | k + 1, x3, x106000, x106001, x106002 => if x106000 = 1 then ((line_auto.f).bind fun bt107 => (some (x106000 == bt107.1 && (x106001 == bt107.2.1 && (x106002.toList == bt107.2.2.toList))))) else (if x106000 = 2 then (if x106001 = 0 then (some false) else (if x106001 ≥ (-10000) then (if x106001 ≤ 10000 then (some x3) else (some false)) else (some false))) else (if x106000 = 3 then (if x106001 = 0 then (if x106002.toList = ([] : List UInt8) then (some false) else (some x3)) else (some false)) else (if x106000 = 4 then (if x106001 ≥ 1 then (if x106001 ≤ 10000 then (some x3) else (some false)) else (some false)) else (some false))))
def line_Good.f (k : Nat) (a0_0 : Int) (a0_1 : Int) (a0_2 : ByteArray) : Option (Bool) := if a0_2.toList = ([] : List UInt8) then (line_Good.j0 k true a0_0 a0_1 a0_2) else ((ident_Custom.f a0_2).bind fun t106 => (line_Good.j0 k t106 a0_0 a0_1 a0_2))
theorem line_Good.mono_l : ∀ k, (∀ y0 y1 y2 y3, LeO (line_Good.j0 k y0 y1 y2 y3) (line_Good.j0 (k + 1) y0 y1 y2 y3))
 | 0 => fun _ _ _ _ r h => by simp [line_Good.j0] at h
 | k + 1 => by
  have ih0 := line_Good.mono_l k; intro y0 y1 y2 y3; unfold line_Good.j0; repeat' first
  | (with_reducible exact ih0 _ _ _ _)
  | (with_reducible first | exact LeO.refl _ | exact LeO.none _ | refine LeO.ite ?_ ?_ | refine LeO.bind ?_ (fun _ => ?_))
theorem line_Good.mono : ∀ a0 a1 a2 k, LeO (line_Good.f k a0 a1 a2) (line_Good.f (k + 1) a0 a1 a2) := by
 intro a0 a1 a2 k; have ih0 := line_Good.mono_l k; unfold line_Good.f; repeat' first
   | (with_reducible exact ih0 _ _ _ _)
   | (with_reducible first | exact LeO.refl _ | exact LeO.none _ | refine LeO.ite ?_ ?_ | refine LeO.bind ?_ (fun _ => ?_))
set_option maxHeartbeats 8000000 in
theorem line_Good.calls (k : Nat) (a0_0 : Int) (a0_1 : Int) (a0_2 : ByteArray) (r : Bool) (w : World) (h : line_Good.f k a0_0 a0_1 a0_2 = some r) :
  Calls Tryd.prog 19 #[.agg #[.int .i64 a0_0, .int .i64 a0_1, .string a0_2]] w fun e w' => e = .returned (.bool r) ∧ Below w.heap.size w w' := by
 have hu41 := Tryd.underlying41; have HB := am_ (Below.refl w.heap.size w); have H : (if a0_2.toList = ([] : List UInt8) then (line_Good.j0 k true a0_0 a0_1 a0_2) else ((ident_Custom.f a0_2).bind fun t106 => (line_Good.j0 k t106 a0_0 a0_1 a0_2))) = some r := h; clear h; have HC2 := am_ H; clear H; go_enter Tryd.func19, Tryd.ntmps19
 go_upto_region 1 with (first | ((with_reducible refine gate_dst (N := 1) rfl ?_); refine box_event ?hg (N := 1) ?hd (cs := #[.int .i64 a0_0, .int .i64 a0_1, .string a0_2]) (t := 41) ?hr ?_; (case hd => rfl); (case hg => rfl); (case hr => first | (go_simp; done) | (go_simp; rfl)); intro gb105 hg w3 hbox hb; have BK105 := am_ (hbox); have GW105 := am_ ((bsz_ hg : w.heap.size ≤ gb105)); have GE105 := am_ ((bsz_ hg : w.heap.size ≤ gb105)); replace HB := am_ (below_step bel_ hb); clear hb hbox hg))
 (try simp only [Act.put, List.setIfInBounds_toArray, List.set_cons_zero, List.set_cons_succ])
 go_cut [3] (fun v3 wc => ∃ (kq : Nat) (x3_1 : Bool), v3 = .bool x3_1 ∧ Aside0 (line_Good.j0 kq x3_1 a0_0 a0_1 a0_2 = some r) ∧ Aside0 (kq ≤ k) ∧ Aside0 (wc.heap[gb105]? = some (.cells #[.int .i64 a0_0, .int .i64 a0_1, .string a0_2] 41 (0, 0))) ∧ Aside0 (Below w.heap.size w wc))
 case first =>
  have H := HC2.out; clear HC2; by_cases c4 : a0_2.toList = ([] : List UInt8)
  ·rw [if_pos c4] at H; have c4b0 : (a0_2.toList == ([] : List UInt8)) = true := beq_iff_eq.mpr c4; have c4b1 : (a0_2.toList != ([] : List UInt8)) = false := bne_eq_false_iff_eq.mpr c4; clear c4; (first | rw [c4b0] | (simp only [i64_w, i32_w]; rw [c4b0]) | skip)
   have H' := am_ H; clear H; obtain ⟨hcz5_0, hcz5_1, hcz5_2⟩ := c3_ BK105; obtain ⟨hfz5_0, hfz5_1, hfz5_2⟩ := f3_ BK105; go_wp2; go_meet
   case rel => exact ⟨_, (true), rfs_, (by first | exact H' | (subst_vars; exact H')), ⟨ole_⟩, ⟨blk_⟩, ⟨bel_⟩⟩
  rw [if_neg c4] at H; have c4b0 : (a0_2.toList == ([] : List UInt8)) = false := beq_eq_false_iff_ne.mpr c4; have c4b1 : (a0_2.toList != ([] : List UInt8)) = true := bne_iff_ne.mpr c4; (first | rw [c4b0] | (simp only [i64_w, i32_w]; rw [c4b0]) | skip)
  replace H := bs_ H; obtain ⟨t106, A60, H⟩ := H; try dsimp only at H
  have A6 := am_ A60; clear A60; have H' := am_ H; clear H; obtain ⟨hcz7_0, hcz7_1, hcz7_2⟩ := c3_ BK105; obtain ⟨hfz7_0, hfz7_1, hfz7_2⟩ := f3_ BK105; go_wp2_with (first | (go_at_call 40; (with_reducible refine (ident_Custom.calls a0_2 t106 _ A6.out).mono ?_); rintro e w8 ⟨rfl, hb⟩; replace BK105 := blb_ BK105 hb; replace HB := am_ (below_step bel_ hb); clear hb))
  go_meet
  case rel => exact ⟨_, (t106), rfs_, (by first | exact H' | (subst_vars; exact H')), ⟨ole_⟩, ⟨blk_⟩, ⟨bel_⟩⟩
 clear HC2; obtain ⟨kq, x3_1, rfl, HA, HJ1, BK105, HB⟩ := hcut
 cases kq with
 | zero => exact absurd HA.out (by simp [line_Good.j0])
 | succ kj1 =>
  have H := HA.out; clear HA; simp only [line_Good.j0] at H; by_cases c9 : a0_0 = 1
  ·rw [if_pos c9] at H; have c9b0 : (a0_0 == 1) = true := beq_iff_eq.mpr c9; have c9b1 : (a0_0 != 1) = false := bne_eq_false_iff_eq.mpr c9; clear c9; replace H := bs_ H; obtain ⟨⟨t107, t108, t109⟩, A100, H⟩ := H; try dsimp only at H
   have A10 := am_ A100; clear A100; obtain rfl := si_ H; obtain ⟨hcz11_0, hcz11_1, hcz11_2⟩ := c3_ BK105; obtain ⟨hfz11_0, hfz11_1, hfz11_2⟩ := f3_ BK105; try go_wp2
   have n0_ := am_ (blk_drew BK105.out); have n1_ := am_ (below_drew1 HB.out); clear BK105; clear HB; have BK105 := n0_; have HB := n1_; clear n0_ n1_; refine start_ (n := 4) (S := fun w' => w'.cell? ⟨gb105, 0, none⟩ = some (.int .i64 a0_0) ∧ w'.cell? ⟨gb105, 1, none⟩ = some (.int .i64 a0_1) ∧ w'.cell? ⟨gb105, 2, none⟩ = some (.string a0_2)) (ds := []) #[false, false, false, false] (by kernel_rfl) rfl rfl ⟨(blk_cell BK105.out 0).trans rfl, (blk_cell BK105.out 1).trans rfl, (blk_cell BK105.out 2).trans rfl⟩ (fun hHeld => ?_)
   generalize wc.drew = w12 at BK105 HB hHeld ⊢
   refine take_ (i := 0) (N := some 16) (v := ?_) (a' := ?_) #[true, false, false, false] rfl rfl (by kernel_rfl) (fun _ _ _ h => h) (Or.inl ⟨by rfl, ?_⟩) hHeld ?_ ?_
   rotate_left
   ·rintro w' ⟨s0, s1, s2⟩
    go_simp
    with_reducible rfl
   rotate_left
   ·simp only [Act.put, List.setIfInBounds_toArray, List.set_cons_zero, List.set_cons_succ, i64_w, i32_w]; rfl
   refine one_ (i := 1) (N := some 17) #[true, true, false, false] rfl rfl (by kernel_rfl) (by decide) (fun K hK => ?_)
   refine goes_ Tryd.func41 (by kernel_rfl) rfl #[] (by rfl) rfl rfl goa_ ?_
   with_reducible refine (line_auto.calls  t107 t108 t109 _ A10.out).mono ?_
   rintro e w13 ⟨rfl, hb⟩
   refine ⟨_, rfl, ?_⟩
   have n0_ := blb_ BK105 hb; have n1_ := am_ (below_step bel_ hb); clear BK105; clear HB; have BK105 := n0_; have HB := n1_; clear n0_ n1_; (try clear hb)
   (try clear hb2)
   (try clear hk)
   (try clear hi)
   refine hK.out _ _ ⟨(blk_cell BK105.out 0).trans rfl, (blk_cell BK105.out 1).trans rfl, (blk_cell BK105.out 2).trans rfl⟩ (fun hHeld => ?_)
   clear hK K; refine norm_ (a' := ?_) ?_ ?_
   rotate_left
   ·show Act.put _ (some 17) _ = _
    simp only [Act.put, List.setIfInBounds_toArray, List.set_cons_zero, List.set_cons_succ, i64_w, i32_w]; rfl
   refine pure_ (i := 2) (N := some 18) (v := ?_) (a' := ?_) #[true, true, true, false] rfl rfl (by kernel_rfl) (fun _ _ _ h => h) (Or.inl ⟨by rfl, ?_⟩) ?_ ?_
   rotate_left
   ·intro w'; go_simp
    with_reducible rfl
   rotate_left
   ·simp only [Act.put, List.setIfInBounds_toArray, List.set_cons_zero, List.set_cons_succ, i64_w, i32_w]; rfl
   refine pure_ (i := 3) (N := some 2) (v := ?_) (a' := ?_) #[true, true, true, true] rfl rfl (by kernel_rfl) (fun _ _ _ h => h) (Or.inl ⟨by rfl, ?_⟩) ?_ ?_
   rotate_left
   ·intro w'; go_simp
    with_reducible rfl
   rotate_left
   ·simp only [Act.put, List.setIfInBounds_toArray, List.set_cons_zero, List.set_cons_succ, i64_w, i32_w]; rfl
   refine done_ (by kernel_rfl) ?_
   try go_wp2
   go_ret
   exact ⟨rsl_, bel_⟩
  rw [if_neg c9] at H; have c9b0 : (a0_0 == 1) = false := beq_eq_false_iff_ne.mpr c9; have c9b1 : (a0_0 != 1) = true := bne_iff_ne.mpr c9; by_cases c14 : a0_0 = 2
  ·rw [if_pos c14] at H; have c14b0 : (a0_0 == 2) = true := beq_iff_eq.mpr c14; have c14b1 : (a0_0 != 2) = false := bne_eq_false_iff_eq.mpr c14; clear c14; by_cases c15 : a0_1 = 0
   ·rw [if_pos c15] at H; have c15b0 : (a0_1 == 0) = true := beq_iff_eq.mpr c15; have c15b1 : (a0_1 != 0) = false := bne_eq_false_iff_eq.mpr c15; clear c15; obtain rfl := si_ H; obtain ⟨hcz16_0, hcz16_1, hcz16_2⟩ := c3_ BK105; obtain ⟨hfz16_0, hfz16_1, hfz16_2⟩ := f3_ BK105; go_wp2; go_ret
    exact ⟨rsl_, bel_⟩
   rw [if_neg c15] at H; have c15b0 : (a0_1 == 0) = false := beq_eq_false_iff_ne.mpr c15; have c15b1 : (a0_1 != 0) = true := bne_iff_ne.mpr c15; by_cases c17 : a0_1 ≥ (-10000)
   ·rw [if_pos c17] at H; have c17b0 : decide ((-10000) ≤ a0_1) = true := dt_ c17; clear c17; by_cases c18 : a0_1 ≤ 10000
    ·rw [if_pos c18] at H; have c18b0 : decide (a0_1 ≤ 10000) = true := dt_ c18; clear c18; obtain rfl := si_ H; obtain ⟨hcz19_0, hcz19_1, hcz19_2⟩ := c3_ BK105; obtain ⟨hfz19_0, hfz19_1, hfz19_2⟩ := f3_ BK105; go_wp2; go_ret
     exact ⟨rsl_, bel_⟩
    rw [if_neg c18] at H; have c18b0 : decide (a0_1 ≤ 10000) = false := df_ c18; clear c18; obtain rfl := si_ H; obtain ⟨hcz20_0, hcz20_1, hcz20_2⟩ := c3_ BK105; obtain ⟨hfz20_0, hfz20_1, hfz20_2⟩ := f3_ BK105; go_wp2; go_ret
    exact ⟨rsl_, bel_⟩
   rw [if_neg c17] at H; have c17b0 : decide ((-10000) ≤ a0_1) = false := df_ c17; clear c17; obtain rfl := si_ H; obtain ⟨hcz21_0, hcz21_1, hcz21_2⟩ := c3_ BK105; obtain ⟨hfz21_0, hfz21_1, hfz21_2⟩ := f3_ BK105; go_wp2; go_ret
   exact ⟨rsl_, bel_⟩
  rw [if_neg c14] at H; have c14b0 : (a0_0 == 2) = false := beq_eq_false_iff_ne.mpr c14; have c14b1 : (a0_0 != 2) = true := bne_iff_ne.mpr c14; by_cases c22 : a0_0 = 3
  ·rw [if_pos c22] at H; have c22b0 : (a0_0 == 3) = true := beq_iff_eq.mpr c22; have c22b1 : (a0_0 != 3) = false := bne_eq_false_iff_eq.mpr c22; clear c22; by_cases c23 : a0_1 = 0
   ·rw [if_pos c23] at H; have c23b0 : (a0_1 == 0) = true := beq_iff_eq.mpr c23; have c23b1 : (a0_1 != 0) = false := bne_eq_false_iff_eq.mpr c23; clear c23; by_cases c24 : a0_2.toList = ([] : List UInt8)
    ·rw [if_pos c24] at H; have c24b0 : (a0_2.toList == ([] : List UInt8)) = true := beq_iff_eq.mpr c24; have c24b1 : (a0_2.toList != ([] : List UInt8)) = false := bne_eq_false_iff_eq.mpr c24; clear c24; obtain rfl := si_ H; obtain ⟨hcz25_0, hcz25_1, hcz25_2⟩ := c3_ BK105; obtain ⟨hfz25_0, hfz25_1, hfz25_2⟩ := f3_ BK105; go_wp2; go_ret
     exact ⟨rsl_, bel_⟩
    rw [if_neg c24] at H; have c24b0 : (a0_2.toList == ([] : List UInt8)) = false := beq_eq_false_iff_ne.mpr c24; have c24b1 : (a0_2.toList != ([] : List UInt8)) = true := bne_iff_ne.mpr c24; obtain rfl := si_ H; obtain ⟨hcz26_0, hcz26_1, hcz26_2⟩ := c3_ BK105; obtain ⟨hfz26_0, hfz26_1, hfz26_2⟩ := f3_ BK105; go_wp2; go_ret
    exact ⟨rsl_, bel_⟩
   rw [if_neg c23] at H; have c23b0 : (a0_1 == 0) = false := beq_eq_false_iff_ne.mpr c23; have c23b1 : (a0_1 != 0) = true := bne_iff_ne.mpr c23; obtain rfl := si_ H; obtain ⟨hcz27_0, hcz27_1, hcz27_2⟩ := c3_ BK105; obtain ⟨hfz27_0, hfz27_1, hfz27_2⟩ := f3_ BK105; go_wp2; go_ret
   exact ⟨rsl_, bel_⟩
  rw [if_neg c22] at H; have c22b0 : (a0_0 == 3) = false := beq_eq_false_iff_ne.mpr c22; have c22b1 : (a0_0 != 3) = true := bne_iff_ne.mpr c22; by_cases c28 : a0_0 = 4
  ·rw [if_pos c28] at H; have c28b0 : (a0_0 == 4) = true := beq_iff_eq.mpr c28; have c28b1 : (a0_0 != 4) = false := bne_eq_false_iff_eq.mpr c28; clear c28; by_cases c29 : a0_1 ≥ 1
   ·rw [if_pos c29] at H; have c29b0 : decide (1 ≤ a0_1) = true := dt_ c29; clear c29; by_cases c30 : a0_1 ≤ 10000
    ·rw [if_pos c30] at H; have c30b0 : decide (a0_1 ≤ 10000) = true := dt_ c30; clear c30; obtain rfl := si_ H; obtain ⟨hcz31_0, hcz31_1, hcz31_2⟩ := c3_ BK105; obtain ⟨hfz31_0, hfz31_1, hfz31_2⟩ := f3_ BK105; go_wp2; go_ret
     exact ⟨rsl_, bel_⟩
    rw [if_neg c30] at H; have c30b0 : decide (a0_1 ≤ 10000) = false := df_ c30; clear c30; obtain rfl := si_ H; obtain ⟨hcz32_0, hcz32_1, hcz32_2⟩ := c3_ BK105; obtain ⟨hfz32_0, hfz32_1, hfz32_2⟩ := f3_ BK105; go_wp2; go_ret
    exact ⟨rsl_, bel_⟩
   rw [if_neg c29] at H; have c29b0 : decide (1 ≤ a0_1) = false := df_ c29; clear c29; obtain rfl := si_ H; obtain ⟨hcz33_0, hcz33_1, hcz33_2⟩ := c3_ BK105; obtain ⟨hfz33_0, hfz33_1, hfz33_2⟩ := f3_ BK105; go_wp2; go_ret
   exact ⟨rsl_, bel_⟩
  rw [if_neg c28] at H; have c28b0 : (a0_0 == 4) = false := beq_eq_false_iff_ne.mpr c28; have c28b1 : (a0_0 != 4) = true := bne_iff_ne.mpr c28; obtain rfl := si_ H; obtain ⟨hcz34_0, hcz34_1, hcz34_2⟩ := c3_ BK105; obtain ⟨hfz34_0, hfz34_1, hfz34_2⟩ := f3_ BK105; go_wp2; go_ret
  exact ⟨rsl_, bel_⟩


/-! ### token_Letter: function 54 -/
def token_Letter.f (a0 : Int) : Option (Bool) := if a0 ≥ 97 then (if a0 ≤ 122 then (some true) else (if a0 ≥ 65 then (if a0 ≤ 90 then (some true) else (if a0 = 95 then (some true) else (some (decide (a0 ≥ 128))))) else (if a0 = 95 then (some true) else (some (decide (a0 ≥ 128)))))) else (if a0 ≥ 65 then (if a0 ≤ 90 then (some true) else (if a0 = 95 then (some true) else (some (decide (a0 ≥ 128))))) else (if a0 = 95 then (some true) else (some (decide (a0 ≥ 128)))))
set_option maxHeartbeats 8000000 in
theorem token_Letter.calls (a0 : Int) (r : Bool) (w : World) (h : token_Letter.f a0 = some r) :
  Calls Tryd.prog 54 #[.int .u8 a0] w fun e w' => e = .returned (.bool r) ∧ Drawn0 w w' := by
 have H : (if a0 ≥ 97 then (if a0 ≤ 122 then (some true) else (if a0 ≥ 65 then (if a0 ≤ 90 then (some true) else (if a0 = 95 then (some true) else (some (decide (a0 ≥ 128))))) else (if a0 = 95 then (some true) else (some (decide (a0 ≥ 128)))))) else (if a0 ≥ 65 then (if a0 ≤ 90 then (some true) else (if a0 = 95 then (some true) else (some (decide (a0 ≥ 128))))) else (if a0 = 95 then (some true) else (some (decide (a0 ≥ 128)))))) = some r := h; clear h; by_cases c2 : a0 ≥ 97
 ·rw [if_pos c2] at H; have c2b0 : decide (97 ≤ a0) = true := dt_ c2; clear c2; by_cases c3 : a0 ≤ 122
  ·rw [if_pos c3] at H; have c3b0 : decide (a0 ≤ 122) = true := dt_ c3; clear c3; obtain rfl := si_ H; go_enter Tryd.func54, Tryd.ntmps54
   go_wp2; go_ret
   exact ⟨by first | rfl | (simp; done) | (simp [*]; done), drs_⟩
  rw [if_neg c3] at H; have c3b0 : decide (a0 ≤ 122) = false := df_ c3; clear c3; by_cases c4 : a0 ≥ 65
  ·rw [if_pos c4] at H; have c4b0 : decide (65 ≤ a0) = true := dt_ c4; clear c4; by_cases c5 : a0 ≤ 90
   ·rw [if_pos c5] at H; have c5b0 : decide (a0 ≤ 90) = true := dt_ c5; clear c5; obtain rfl := si_ H; go_enter Tryd.func54, Tryd.ntmps54
    go_wp2; go_ret
    exact ⟨by first | rfl | (simp; done) | (simp [*]; done), drs_⟩
   rw [if_neg c5] at H; have c5b0 : decide (a0 ≤ 90) = false := df_ c5; clear c5; by_cases c6 : a0 = 95
   ·rw [if_pos c6] at H; have c6b0 : (a0 == 95) = true := beq_iff_eq.mpr c6; have c6b1 : (a0 != 95) = false := bne_eq_false_iff_eq.mpr c6; clear c6; obtain rfl := si_ H; go_enter Tryd.func54, Tryd.ntmps54
    go_wp2; go_ret
    exact ⟨by first | rfl | (simp; done) | (simp [*]; done), drs_⟩
   rw [if_neg c6] at H; have c6b0 : (a0 == 95) = false := beq_eq_false_iff_ne.mpr c6; have c6b1 : (a0 != 95) = true := bne_iff_ne.mpr c6; obtain rfl := si_ H; go_enter Tryd.func54, Tryd.ntmps54
   go_wp2; go_ret
   exact ⟨by first | rfl | (simp; done) | (simp [*]; done), drs_⟩
  rw [if_neg c4] at H; have c4b0 : decide (65 ≤ a0) = false := df_ c4; clear c4; by_cases c7 : a0 = 95
  ·rw [if_pos c7] at H; have c7b0 : (a0 == 95) = true := beq_iff_eq.mpr c7; have c7b1 : (a0 != 95) = false := bne_eq_false_iff_eq.mpr c7; clear c7; obtain rfl := si_ H; go_enter Tryd.func54, Tryd.ntmps54
   go_wp2; go_ret
   exact ⟨by first | rfl | (simp; done) | (simp [*]; done), drs_⟩
  rw [if_neg c7] at H; have c7b0 : (a0 == 95) = false := beq_eq_false_iff_ne.mpr c7; have c7b1 : (a0 != 95) = true := bne_iff_ne.mpr c7; obtain rfl := si_ H; go_enter Tryd.func54, Tryd.ntmps54
  go_wp2; go_ret
  exact ⟨by first | rfl | (simp; done) | (simp [*]; done), drs_⟩
 rw [if_neg c2] at H; have c2b0 : decide (97 ≤ a0) = false := df_ c2; clear c2; by_cases c8 : a0 ≥ 65
 ·rw [if_pos c8] at H; have c8b0 : decide (65 ≤ a0) = true := dt_ c8; clear c8; by_cases c9 : a0 ≤ 90
  ·rw [if_pos c9] at H; have c9b0 : decide (a0 ≤ 90) = true := dt_ c9; clear c9; obtain rfl := si_ H; go_enter Tryd.func54, Tryd.ntmps54
   go_wp2; go_ret
   exact ⟨by first | rfl | (simp; done) | (simp [*]; done), drs_⟩
  rw [if_neg c9] at H; have c9b0 : decide (a0 ≤ 90) = false := df_ c9; clear c9; by_cases c10 : a0 = 95
  ·rw [if_pos c10] at H; have c10b0 : (a0 == 95) = true := beq_iff_eq.mpr c10; have c10b1 : (a0 != 95) = false := bne_eq_false_iff_eq.mpr c10; clear c10; obtain rfl := si_ H; go_enter Tryd.func54, Tryd.ntmps54
   go_wp2; go_ret
   exact ⟨by first | rfl | (simp; done) | (simp [*]; done), drs_⟩
  rw [if_neg c10] at H; have c10b0 : (a0 == 95) = false := beq_eq_false_iff_ne.mpr c10; have c10b1 : (a0 != 95) = true := bne_iff_ne.mpr c10; obtain rfl := si_ H; go_enter Tryd.func54, Tryd.ntmps54
  go_wp2; go_ret
  exact ⟨by first | rfl | (simp; done) | (simp [*]; done), drs_⟩
 rw [if_neg c8] at H; have c8b0 : decide (65 ≤ a0) = false := df_ c8; clear c8; by_cases c11 : a0 = 95
 ·rw [if_pos c11] at H; have c11b0 : (a0 == 95) = true := beq_iff_eq.mpr c11; have c11b1 : (a0 != 95) = false := bne_eq_false_iff_eq.mpr c11; clear c11; obtain rfl := si_ H; go_enter Tryd.func54, Tryd.ntmps54
  go_wp2; go_ret
  exact ⟨by first | rfl | (simp; done) | (simp [*]; done), drs_⟩
 rw [if_neg c11] at H; have c11b0 : (a0 == 95) = false := beq_eq_false_iff_ne.mpr c11; have c11b1 : (a0 != 95) = true := bne_iff_ne.mpr c11; obtain rfl := si_ H; go_enter Tryd.func54, Tryd.ntmps54
 go_wp2; go_ret
 exact ⟨by first | rfl | (simp; done) | (simp [*]; done), drs_⟩

/-! ### token_feed: function 103 -/
def token_feed.f (a0 : Int) : Option (Bool) := if a0 = 10 then (some true) else (if a0 = 13 then (some true) else (some (a0 == 12)))
set_option maxHeartbeats 8000000 in
theorem token_feed.calls (a0 : Int) (r : Bool) (w : World) (h : token_feed.f a0 = some r) :
  Calls Tryd.prog 103 #[.int .u8 a0] w fun e w' => e = .returned (.bool r) ∧ Drawn0 w w' := by
 have H : (if a0 = 10 then (some true) else (if a0 = 13 then (some true) else (some (a0 == 12)))) = some r := h; clear h; by_cases c2 : a0 = 10
 ·rw [if_pos c2] at H; have c2b0 : (a0 == 10) = true := beq_iff_eq.mpr c2; have c2b1 : (a0 != 10) = false := bne_eq_false_iff_eq.mpr c2; clear c2; obtain rfl := si_ H; go_enter Tryd.func103, Tryd.ntmps103
  go_wp2; go_ret
  exact ⟨by first | rfl | (simp; done) | (simp [*]; done), drs_⟩
 rw [if_neg c2] at H; have c2b0 : (a0 == 10) = false := beq_eq_false_iff_ne.mpr c2; have c2b1 : (a0 != 10) = true := bne_iff_ne.mpr c2; by_cases c3 : a0 = 13
 ·rw [if_pos c3] at H; have c3b0 : (a0 == 13) = true := beq_iff_eq.mpr c3; have c3b1 : (a0 != 13) = false := bne_eq_false_iff_eq.mpr c3; clear c3; obtain rfl := si_ H; go_enter Tryd.func103, Tryd.ntmps103
  go_wp2; go_ret
  exact ⟨by first | rfl | (simp; done) | (simp [*]; done), drs_⟩
 rw [if_neg c3] at H; have c3b0 : (a0 == 13) = false := beq_eq_false_iff_ne.mpr c3; have c3b1 : (a0 != 13) = true := bne_iff_ne.mpr c3; obtain rfl := si_ H; go_enter Tryd.func103, Tryd.ntmps103
 go_wp2; go_ret
 exact ⟨by first | rfl | (simp; done) | (simp [*]; done), drs_⟩

/-! ### token_blank: function 86 -/
def token_blank.f (a0 : Int) : Option (Bool) := if a0 = 32 then (some true) else (if a0 = 9 then (some true) else ((token_feed.f a0).bind fun t110 => (some t110)))
set_option maxHeartbeats 8000000 in
theorem token_blank.calls (a0 : Int) (r : Bool) (w : World) (h : token_blank.f a0 = some r) :
  Calls Tryd.prog 86 #[.int .u8 a0] w fun e w' => e = .returned (.bool r) ∧ Drawn0 w w' := by
 have H : (if a0 = 32 then (some true) else (if a0 = 9 then (some true) else ((token_feed.f a0).bind fun t110 => (some t110)))) = some r := h; clear h; by_cases c2 : a0 = 32
 ·rw [if_pos c2] at H; have c2b0 : (a0 == 32) = true := beq_iff_eq.mpr c2; have c2b1 : (a0 != 32) = false := bne_eq_false_iff_eq.mpr c2; clear c2; obtain rfl := si_ H; go_enter Tryd.func86, Tryd.ntmps86
  go_wp2; go_ret
  exact ⟨by first | rfl | (simp; done) | (simp [*]; done), drs_⟩
 rw [if_neg c2] at H; have c2b0 : (a0 == 32) = false := beq_eq_false_iff_ne.mpr c2; have c2b1 : (a0 != 32) = true := bne_iff_ne.mpr c2; by_cases c3 : a0 = 9
 ·rw [if_pos c3] at H; have c3b0 : (a0 == 9) = true := beq_iff_eq.mpr c3; have c3b1 : (a0 != 9) = false := bne_eq_false_iff_eq.mpr c3; clear c3; obtain rfl := si_ H; go_enter Tryd.func86, Tryd.ntmps86
  go_wp2; go_ret
  exact ⟨by first | rfl | (simp; done) | (simp [*]; done), drs_⟩
 rw [if_neg c3] at H; have c3b0 : (a0 == 9) = false := beq_eq_false_iff_ne.mpr c3; have c3b1 : (a0 != 9) = true := bne_iff_ne.mpr c3; replace H := bs_ H; obtain ⟨t110, A40, H⟩ := H; try dsimp only at H
 have A4 := am_ A40; clear A40; obtain rfl := si_ H; go_enter Tryd.func86, Tryd.ntmps86
 go_wp2_with (first | (go_at_call 103; (with_reducible refine (token_feed.calls a0 t110 _ A4.out).mono ?_); rintro e w' ⟨rfl, ⟨nd, rfl⟩⟩))
 go_ret
 exact ⟨by first | rfl | (simp; done) | (simp [*]; done), drs_⟩

/-! ### stringslite_HasPrefix: function 104 -/
def stringslite_HasPrefix.f (a0 : ByteArray) (a1 : ByteArray) : Option (Bool) := if (a0.size : Int) ≥ (a1.size : Int) then (if 0 ≤ (a1.size : Int) then (if (a1.size : Int) ≤ (a0.size : Int) then (some ((a0.extract 0 ((a1.size : Int) : Int).toNat).toList == a1.toList)) else (none)) else (none)) else (some false)
set_option maxHeartbeats 8000000 in
theorem stringslite_HasPrefix.calls (a0 : ByteArray) (a1 : ByteArray) (r : Bool) (w : World) (h : stringslite_HasPrefix.f a0 a1 = some r) :
  Calls Tryd.prog 104 #[.string a0, .string a1] w fun e w' => e = .returned (.bool r) ∧ Drawn0 w w' := by
 have H : (if (a0.size : Int) ≥ (a1.size : Int) then (if 0 ≤ (a1.size : Int) then (if (a1.size : Int) ≤ (a0.size : Int) then (some ((a0.extract 0 ((a1.size : Int) : Int).toNat).toList == a1.toList)) else (none)) else (none)) else (some false)) = some r := h; clear h; by_cases c3 : (a0.size : Int) ≥ (a1.size : Int)
 ·rw [if_pos c3] at H; have c3b0 : decide ((a1.size : Int) ≤ (a0.size : Int)) = true := dt_ c3; have c3b1 : decide (a1.size ≤ a0.size) = true := dt_ (Int.ofNat_le.mp c3); clear c3; by_cases c4 : 0 ≤ (a1.size : Int)
  ·rw [if_pos c4] at H; have c4b0 := eq_true c4; have c4b1 : decide (0 ≤ (a1.size : Int)) = true := dt_ c4; clear c4; by_cases c5 : (a1.size : Int) ≤ (a0.size : Int)
   ·rw [if_pos c5] at H; have c5b0 := eq_true c5; have c5b1 : decide ((a1.size : Int) ≤ (a0.size : Int)) = true := dt_ c5; clear c5; obtain rfl := si_ H; go_enter Tryd.func104, Tryd.ntmps104
    go_wp2; go_ret
    exact ⟨by first | rfl | (simp; done) | (simp [*]; done), drs_⟩
   rw [if_neg c5] at H; exact absurd H (by simp)
  rw [if_neg c4] at H; exact absurd H (by simp)
 rw [if_neg c3] at H; have c3b0 : decide ((a1.size : Int) ≤ (a0.size : Int)) = false := df_ c3; have c3b1 : decide (a1.size ≤ a0.size) = false := df_ (fun h => c3 (Int.ofNat_le.mpr h)); clear c3; obtain rfl := si_ H; go_enter Tryd.func104, Tryd.ntmps104
 go_wp2; go_ret
 exact ⟨by first | rfl | (simp; done) | (simp [*]; done), drs_⟩

/-! ### strings_HasPrefix: function 87 -/
def strings_HasPrefix.f (a0 : ByteArray) (a1 : ByteArray) : Option (Bool) := (stringslite_HasPrefix.f a0 a1).bind fun t111 => (some t111)
set_option maxHeartbeats 8000000 in
theorem strings_HasPrefix.calls (a0 : ByteArray) (a1 : ByteArray) (r : Bool) (w : World) (h : strings_HasPrefix.f a0 a1 = some r) :
  Calls Tryd.prog 87 #[.string a0, .string a1] w fun e w' => e = .returned (.bool r) ∧ Drawn0 w w' := by
 have H : ((stringslite_HasPrefix.f a0 a1).bind fun t111 => (some t111)) = some r := h; clear h; replace H := bs_ H; obtain ⟨t111, A30, H⟩ := H; try dsimp only at H
 have A3 := am_ A30; clear A30; obtain rfl := si_ H; go_enter Tryd.func87, Tryd.ntmps87
 go_wp2_with (first | ((with_reducible refine gate_callee (f := 104) rfl ?_); refine goesL_ (some 7) rfl rfl Tryd.func104 (by kernel_rfl) rfl #[.string a0, .string a1] rfl goa_ ?_; (with_reducible refine (stringslite_HasPrefix.calls a0 a1 t111 _ A3.out).mono ?_); rintro e w' ⟨rfl, ⟨nd, rfl⟩⟩; refine ⟨_, rfl, ?_⟩))
 go_ret
 exact ⟨by first | rfl | (simp; done) | (simp [*]; done), drs_⟩

/-! ### number_digit: function 127 -/
def number_digit.f (a0 : Int) : Option (Bool) := if a0 ≥ 48 then (some (decide (a0 ≤ 57))) else (some false)
set_option maxHeartbeats 8000000 in
theorem number_digit.calls (a0 : Int) (r : Bool) (w : World) (h : number_digit.f a0 = some r) :
  Calls Tryd.prog 127 #[.int .u8 a0] w fun e w' => e = .returned (.bool r) ∧ Drawn0 w w' := by
 have H : (if a0 ≥ 48 then (some (decide (a0 ≤ 57))) else (some false)) = some r := h; clear h; by_cases c2 : a0 ≥ 48
 ·rw [if_pos c2] at H; have c2b0 : decide (48 ≤ a0) = true := dt_ c2; clear c2; obtain rfl := si_ H; go_enter Tryd.func127, Tryd.ntmps127
  go_wp2; go_ret
  exact ⟨by first | rfl | (simp; done) | (simp [*]; done), drs_⟩
 rw [if_neg c2] at H; have c2b0 : decide (48 ≤ a0) = false := df_ c2; clear c2; obtain rfl := si_ H; go_enter Tryd.func127, Tryd.ntmps127
 go_wp2; go_ret
 exact ⟨by first | rfl | (simp; done) | (simp [*]; done), drs_⟩

end Go.Proofs.YtofdhdafabmhmaaDoor.PLf4
end
