/- AreaTellsCardSaid, part 7 of 15: contracts of the program's functions, the words that they use, and the plain laws on what they compute. Conditions: none beyond what the statements say. -/
import Derived.Test.YtofdhdafabmhmaaGreatDoorProg
import Derived.Lib.Strings
import Derived.Lib.Slices
import Derived.Lib.Walk
import Derived.Lib.Builder
import Derived.Lib.AppendStr
import Derived.Lib.UnsafeStr
import Derived.WalkKit
import Derived.Tactics
import Derived.OwnWalk
import Derived.Laws.Externs
import Derived.KernelRfl
import Derived.Outline
import Derived.Test.YtofdhdafabmhmaaGreatDoorKAt2
import Derived.Test.YtofdhdafabmhmaaGreatDoorKAt3
import Derived.Test.YtofdhdafabmhmaaGreatDoorKAt4
import Derived.Test.YtofdhdafabmhmaaGreatDoorKAt5
import Derived.Test.YtofdhdafabmhmaaGreatDoorKAt1
import Derived.BigRegion
import Derived.BigQuiet
import Derived.Deep.QuietTactic
set_option linter.unusedVariables false
set_option linter.unusedSimpArgs false
section
/- The contracts of (*strings.Builder).copyCheck and WriteString, by hand, of a builder that the call itself has made. Condition: what is held and what is written is at most 2^47 bytes. -/
namespace Go.Proofs.YtofdhdafabmhmaaGreatDoor.Giv
open Go.RowKit

theorem builder_size : (Tryz.prog.info? 81).map (·.size) = some 2 := by kernel_rfl
theorem builder_lies : liesAt Tryz.prog Tryz.prog.depth 81 (2 / Tryz.prog.cellsOf 81) 0 81 1 = true := by kernel_rfl
theorem byte_info : (Tryz.prog.info? 5).map (fun i => (i.zero, i.size, i.bytes)) = some (some (.int .u8 0), 1, 1) := by kernel_rfl

set_option maxHeartbeats 1000000 in
set_option maxRecDepth 100000 in
theorem copyCheck_used (b : Nat) (w : World) (h0 : w.cell? ⟨b, 0, none⟩ = some (.pointer (some ⟨b, 0, none⟩))) :
    Calls Tryz.prog 89 #[.pointer (some ⟨b, 0, none⟩)] w fun e w' => e = .returned (.tuple #[]) ∧ w' = w := by
  obtain ⟨j, hj, _⟩ := Option.map_eq_some_iff.1 builder_size
  have ht := Tryz.underlying79
  have hs := Lib.run_neq_ptr_same w (⟨b, 0, none⟩ : Addr) ht hj
  go_enter Tryz.func89, Tryz.ntmps89
  go_wp2
  go_end0
  exact ⟨rfl, rfl⟩

set_option maxHeartbeats 1000000 in
set_option maxRecDepth 100000 in
theorem copyCheck_fresh (b : Nat) (w : World) (h0 : w.cell? ⟨b, 0, none⟩ = some (.pointer none)) (hsh : w.shape? b = some (81, 2)) (hfz : w.frozen? ⟨b, 0, none⟩ = false) :
    Calls Tryz.prog 89 #[.pointer (some ⟨b, 0, none⟩)] w fun e w' => e = .returned (.tuple #[]) ∧ w' = w.setCell ⟨b, 0, none⟩ (.pointer (some ⟨b, 0, none⟩)) := by
  obtain ⟨j, hj, hjs⟩ := Option.map_eq_some_iff.1 builder_size
  have ht := Tryz.underlying79
  have hu := Tryz.underlying117
  go_enter Tryz.func89, Tryz.ntmps89
  go_wp2
  rw [Lib.run_to_unsafe w ⟨b, 0, none⟩ ht hu hj (by rw [hjs]; decide) hsh (Nat.zero_lt_succ 1)]
  simp only [Result.andThen]
  rw [Oper.upon_value]
  go_wp2
  rw [run_callFunc_extern Tryz.func109 (by kernel_rfl) (by kernel_rfl) (by kernel_rfl) (e := Extern.AbiNoEscape.same) (by kernel_rfl)]
  rw [Lib.run_noEscape]
  simp only [Result.andThen]
  rw [Oper.upon_value]
  go_wp2
  rw [Lib.run_from_unsafe w ⟨b, 0, none⟩ hu ht hj hsh builder_lies]
  simp only [Result.andThen]
  rw [Oper.upon_value]
  go_wp2
  go_end0
  exact ⟨rfl, rfl⟩

theorem copyCheck_calls (B b : Nat) (bs : List Value) (w : World) (h : Lib.IsBuilder 81 5 B b bs w) :
    Calls Tryz.prog 89 #[.pointer (some ⟨b, 0, none⟩)] w fun e w' => e = .returned (.tuple #[]) ∧ (Lib.BuilderAt 81 5 B b (.pointer (some ⟨b, 0, none⟩)) bs w' ∧ Below B w w') := by
  rcases h with h | h
  · refine (copyCheck_fresh b w h.cell0 h.shape h.frozen0).mono ?_
    rintro e w' ⟨rfl, rfl⟩
    exact ⟨rfl, h.used _, (Below.refl B w).setCell (p := ⟨b, 0, none⟩) h.1 _⟩
  · refine (copyCheck_used b w h.cell0).mono ?_
    rintro e w' ⟨rfl, rfl⟩
    exact ⟨rfl, h, Below.refl B _⟩

set_option maxHeartbeats 2000000 in
set_option maxRecDepth 100000 in
theorem writeString_calls (B b : Nat) (bs : List Value) (s : ByteArray) (w : World) (h : Lib.IsBuilder 81 5 B b bs w) (hlen : bs.length + s.size ≤ 140737488355328) (hBw : B ≤ w.heap.size) :
    Calls Tryz.prog 59 #[.pointer (some ⟨b, 0, none⟩), .string s] w fun e w' => e = .returned (.tuple #[.int .i64 s.size, .nilIface]) ∧ (Lib.BuilderAt 81 5 B b (.pointer (some ⟨b, 0, none⟩)) (bs ++ Lib.strCells s) w' ∧ Below B w w') := by
  obtain ⟨i0, hi, hz0, hz1, hz2⟩ := info_parts byte_info
  go_enter Tryz.func59, Tryz.ntmps59
  go_wp2_with (go_at_call 89; refine (copyCheck_calls B b bs _ h).mono ?_)
  rintro e w1 ⟨rfl, h1, hb1⟩
  have hlt := h1.lt
  obtain ⟨hB, v, hbk, hown, hne⟩ := h1
  have c0 : w1.cell? ⟨b, 0, none⟩ = some (.pointer (some ⟨b, 0, none⟩)) := by rw [Lib.cell_of_heap hbk]; rfl
  have c1 : w1.cell? ⟨b, 1, none⟩ = some v := by rw [Lib.cell_of_heap hbk]; rfl
  go_wp2_with (at_builtin; refine Lib.wpList_append_own_string _ rfl _ _ 67 9 rfl B 5 i0 Tryz.underlying67 Tryz.underlying9 hi hz0 hz1 hz2 _ _ _ rfl hown s rfl ?c3 ?c4 ?c5 ?_)
  case c3 => unfold maxLen; omega
  case c4 => omega
  case c5 => have := hb1.size; omega
  intro v' w2 hown' hgrow _
  have hb2 : w2.heap[b]? = some (.cells #[.pointer (some ⟨b, 0, none⟩), v] 81 (0, 0)) := (hgrow.block b hlt (fun e => hne e.symm)).trans hbk
  have d0 : w2.cell? ⟨b, 0, none⟩ = some (.pointer (some ⟨b, 0, none⟩)) := by rw [Lib.cell_of_heap hb2]; rfl
  have d1 : w2.cell? ⟨b, 1, none⟩ = some v := by rw [Lib.cell_of_heap hb2]; rfl
  have f1 : w2.frozen? ⟨b, 1, none⟩ = false := Lib.frozen_of_heap hb2 1
  obtain ⟨ao, n', cap, rfl⟩ : ∃ ao n' cap, v' = .slice ao n' cap := by
    rcases hown'.2 with ⟨hv, _⟩ | ⟨g, cap, cur, hv, _⟩
    · exact ⟨_, _, _, hv⟩
    · exact ⟨_, _, _, hv⟩
  go_wp2
  go_ret2
  refine ⟨rfl, ?_, ?_⟩
  · exact Lib.BuilderAt.put (T := 81) (e := 5) hB hb2 (bs' := bs ++ Lib.strCells s) (by simpa [Lib.strCells_length] using hown') (by decide)
  · exact (hb1.grown hgrow (by have := hb1.size; omega) (fun k hk => (hown.lt k hk).1)).setCell (p := ⟨b, 1, none⟩) hB _
end Go.Proofs.YtofdhdafabmhmaaGreatDoor.Giv
end
section
namespace Go.Proofs.YtofdhdafabmhmaaGreatDoor.Giv
open Go.RowKit Go.Proofs.YtofdhdafabmhmaaGreatDoorW.PrintWords Go.Proofs.YtofdhdafabmhmaaGreatDoorW.PrintLast Go.Proofs.YtofdhdafabmhmaaGreatDoorW.PrintMore Go.Proofs.YtofdhdafabmhmaaGreatDoor.PAr
open Go.Proofs.YtofdhdafabmhmaaGreatDoor.Opn Go.BigFrame
theorem Lx.fz {W : World} {g : Nat} {s : ByteArray} {i : Nat} (h : Lx W g s i) : W.frozen? ⟨g, 1, none⟩ = false := blk_frozen h 1
def byteAt (s : ByteArray) (i : Nat) : UInt8 := UInt8.ofNat (bt s (i : Nat)).toNat
theorem byteAt_val (s : ByteArray) (i : Nat) : ((byteAt s i).toNat : Int) = bt s (i : Nat) := by
  have := bt_range s (i : Nat)
  unfold byteAt
  rw [UInt8.toNat_ofNat']
  omega
theorem isB_keep {T e : TypeId} {B b : Nat} {l : List Value} {w w' : World} (h : Lib.IsBuilder T e B b l w) (hk : ∀ k, B ≤ k → k < w.heap.size → w'.heap[k]? = w.heap[k]?) : Lib.IsBuilder T e B b l w' := by
  have key : ∀ p, Lib.BuilderAt T e B b p l w → Lib.BuilderAt T e B b p l w' := by
    intro p hp
    have hlt := hp.lt
    obtain ⟨hB, v, hbk, hown, hne⟩ := hp
    refine ⟨hB, v, (hk b hB hlt).trans hbk, ⟨hown.1, ?_⟩, hne⟩
    rcases hown.2 with h1 | ⟨g, cap, cur, hv, hg, hc, h4⟩
    · exact Or.inl h1
    · exact Or.inr ⟨g, cap, cur, hv, hg, (hk g hg (Array.getElem?_eq_some_iff.1 hc).1).trans hc, h4⟩
  rcases h with h | h
  · exact Or.inl (key _ h)
  · exact Or.inr (key _ h)
theorem isB_drewN {T e : TypeId} {B b : Nat} {l : List Value} {w : World} (h : Lib.IsBuilder T e B b l w) (n : Nat) : Lib.IsBuilder T e B b l (w.drewN n) := h
theorem isB_drew {T e : TypeId} {B b : Nat} {l : List Value} {w : World} (h : Lib.IsBuilder T e B b l w) : Lib.IsBuilder T e B b l w.drew := h
theorem isB_call {T e : TypeId} {B b : Nat} {l : List Value} {w w' : World} (h : Lib.IsBuilder T e B b l w) (hb : Below w.heap.size w w') : Lib.IsBuilder T e B b l w' := isB_keep h (fun k _ hk => hb.block k hk)
theorem isB_set {T e : TypeId} {B b g o : Nat} {v : Value} {l : List Value} {w : World} (h : Lib.IsBuilder T e B b l w) (hg : g < B) : Lib.IsBuilder T e B b l (w.setCell ⟨g, o, none⟩ v) :=
  isB_keep h (fun k hk _ => Below.heap_setCell w _ v k (show k ≠ g by omega))
theorem Lx.lower {W W' : World} {g B : Nat} {s : ByteArray} {i : Nat} (h : Lx W g s i) (hb : Below B W W') (hg : g < B) : Lx W' g s i := (hb.block g hg).trans h
theorem Lk.lower {g B : Nat} {w w1 w2 : World} (h : Lk g w w1) (k : Below B w1 w2) (hB : w.heap.size ≤ B) : Lk g w w2 :=
  ⟨k.os.trans h.os, k.tape.trans h.tape, k.output.trans h.output, Nat.le_trans h.size k.size, fun i hi hg => (k.block i (by omega)).trans (h.heap i hi hg)⟩
theorem built1 {T e : TypeId} {B b : Nat} {l : List UInt8} {c : UInt8} {v : Int} {w : World} (hv : v = (c.toNat : Int)) (h : Lib.BuilderAt T e B b (.pointer (some ⟨b, 0, none⟩)) (Lib.byteCells l ++ [.int .u8 v]) w) : Lib.IsBuilder T e B b (Lib.byteCells (l ++ [c])) w := Or.inr (by
  subst hv
  unfold Lib.byteCells at *
  rw [List.map_append]
  exact h)
theorem builtS {T e : TypeId} {B b : Nat} {l : List UInt8} {r : ByteArray} {w : World} (h : Lib.BuilderAt T e B b (.pointer (some ⟨b, 0, none⟩)) (Lib.byteCells l ++ Lib.strCells r) w) : Lib.IsBuilder T e B b (Lib.byteCells (l ++ r.data.toList)) w := Or.inr (by
  unfold Lib.byteCells Lib.strCells at *
  rw [List.map_append]
  exact h)
set_option maxHeartbeats 2000000 in
set_option maxRecDepth 100000 in
theorem writeByte_calls (B b : Nat) (bs : List Value) (c : Int) (w : World) (h : Lib.IsBuilder 81 5 B b bs w) (hlen : bs.length + 1 ≤ 140737488355328) (hBw : B ≤ w.heap.size) :
    Calls Tryz.prog 128 #[.pointer (some ⟨b, 0, none⟩), .int .u8 c] w fun e w' => e = .returned .nilIface ∧ (Lib.BuilderAt 81 5 B b (.pointer (some ⟨b, 0, none⟩)) (bs ++ [.int .u8 c]) w' ∧ Below B w w') := by
  obtain ⟨i0, hi, hz0, hz1, hz2⟩ := info_parts byte_info
  go_enter Tryz.func128, Tryz.ntmps128
  go_wp2_with (go_at_call 89; refine (copyCheck_calls B b bs _ h).mono ?_)
  rintro e w1 ⟨rfl, h1, hb1⟩
  have hlt := h1.lt
  obtain ⟨hB, v, hbk, hown, hne⟩ := h1
  have c0 : w1.cell? ⟨b, 0, none⟩ = some (.pointer (some ⟨b, 0, none⟩)) := by rw [Lib.cell_of_heap hbk]; rfl
  have c1 : w1.cell? ⟨b, 1, none⟩ = some v := by rw [Lib.cell_of_heap hbk]; rfl
  go_wp2_with (at_builtin; refine wpList_append_own _ rfl _ _ 67 rfl B 5 i0 (.int .u8 0) 1 1 Tryz.underlying67 hi hz0 hz1 hz2 rfl (by decide) _ _ _ rfl (hown.alloc _) ⟨w1.heap.size, 0, none⟩ 1 1 [.int .u8 c] rfl rfl ?c1 ?c2 ?c3 ?c4 ?c5 ?_)
  case c1 =>
    intro j u hj
    match j, hj with
    | 0, hj => simp at hj; subst hj; simp [Addr.add]
  case c2 => intro u hu; simp at hu; subst hu; rfl
  case c3 => unfold maxLen; omega
  case c4 => omega
  case c5 => have := hb1.size; simp; omega
  intro v' w2 hown' hgrow _
  have hb2 : w2.heap[b]? = some (.cells #[.pointer (some ⟨b, 0, none⟩), v] 81 (0, 0)) := by
    rw [hgrow.block b (by simp; omega) (fun e => hne e.symm), Lib.alloc_old w1 _ b hlt]
    exact hbk
  have d0 : w2.cell? ⟨b, 0, none⟩ = some (.pointer (some ⟨b, 0, none⟩)) := by rw [Lib.cell_of_heap hb2]; rfl
  have d1 : w2.cell? ⟨b, 1, none⟩ = some v := by rw [Lib.cell_of_heap hb2]; rfl
  have f1 : w2.frozen? ⟨b, 1, none⟩ = false := Lib.frozen_of_heap hb2 1
  obtain ⟨g, cap, rfl⟩ : ∃ g cap, v' = .slice (some ⟨g, 0, none⟩) (bs.length + 1) cap := by
    rcases hown'.2 with ⟨_, h0⟩ | ⟨g, cap, cur, hv, _⟩
    · omega
    · exact ⟨g, cap, hv⟩
  go_wp2
  go_ret
  refine ⟨rfl, ?_, ?_⟩
  · exact Lib.BuilderAt.put (T := 81) (e := 5) hB hb2 (bs' := bs ++ [.int .u8 c]) (by simpa using hown') (by decide)
  · exact ((hb1.alloc (by have := hb1.size; omega) _).grown hgrow (by have := hb1.size; simp; omega) (fun k hk => (hown.lt k hk).1)).setCell (p := ⟨b, 1, none⟩) hB _
end Go.Proofs.YtofdhdafabmhmaaGreatDoor.Giv
end
section
namespace Go.Proofs.YtofdhdafabmhmaaGreatDoor.Giv
open Go.RowKit Go.Proofs.YtofdhdafabmhmaaGreatDoorW.PrintWords Go.Proofs.YtofdhdafabmhmaaGreatDoorW.PrintLast Go.Proofs.YtofdhdafabmhmaaGreatDoorW.PrintMore Go.Proofs.YtofdhdafabmhmaaGreatDoor.PAr
open Go.Proofs.YtofdhdafabmhmaaGreatDoor.Opn Go.BigFrame
theorem lt0_ {T e : TypeId} {B b : Nat} {l : List Value} {w : World} (h : Lib.IsBuilder T e B b l w) : b < w.heap.size := by
  rcases h with h | h
  · exact h.lt
  · exact h.lt
theorem _root_.Go.Lib.IsBuilder.lt0 {T e : TypeId} {B b : Nat} {l : List Value} {w : World} (h : Lib.IsBuilder T e B b l w) : b < w.heap.size := lt0_ h
/-- What an identifier means, and where it ends. -/
def identF : Nat → ByteArray → Nat → List UInt8 → Option (List UInt8 × Nat)
  | 0, _, _, _ => none
  | k + 1, s, i, acc => (isF token_lexer_ident_1.f s i).bind fun a => if a = true then (if i < s.size then (if acc.length ≤ 10000000 then identF k s (i + 1) (acc ++ [byteAt s i]) else none) else none)
    else ((escF k s i).bind fun e => if e = true then ((token_Hex.f k s (i : Int)).bind fun t => if 0 ≤ t.2 then (if i + t.2.toNat ≤ s.size then (if acc.length + t.1.size ≤ 10000000 then identF k s (i + t.2.toNat) (acc ++ t.1.data.toList) else none) else none) else none) else some (acc, i))
theorem identF.mono : ∀ k s i acc, LeO (identF k s i acc) (identF (k + 1) s i acc)
  | 0, s, i, acc => LeO.none _
  | k + 1, s, i, acc => by
    rw [identF, identF]
    repeat' first
      | exact identF.mono k _ _ _
      | (with_reducible exact escF.mono _ _ _)
      | (with_reducible exact token_Hex.mono _ _ _)
      | (with_reducible exact LeO.refl _)
      | (with_reducible exact LeO.none _)
      | (with_reducible refine LeO.ite ?_ ?_)
      | (with_reducible refine LeO.bind ?_ (fun _ => ?_))
def lexer_ident.T5 : Bool × List (List Nat × List Nat) := (true, [([], []), ([0], [0]), ([1], [1]), ([2], [2]), ([], []), ([4], [4]), ([5], [5]), ([6], [6]), ([3, 7], [3, 7]), ([8], [8])])
def lexer_ident.B5 : List Nat := [0, 1, 3, 7, 0, 16, 48, 112, 255, 511]
theorem lexer_ident.tab5 : rtab .any (opsOf Tryz.f105 5) = lexer_ident.T5 := by kernel_rfl
theorem lexer_ident.bits5 : waitsOk lexer_ident.T5.2 lexer_ident.B5 = true := by kernel_rfl
def lexer_ident.T8 : Bool × List (List Nat × List Nat) := (true, [([], []), ([0], [0]), ([1], [1]), ([2], [2]), ([], []), ([4], [4]), ([5], [5]), ([6], [6]), ([3, 7], [3, 7]), ([8], [8]), ([9], [9]), ([9], [9]), ([10, 8, 0, 1, 2, 3, 4, 5, 6, 7, 8, 9, 10], [10]), ([11, 12, 0, 1, 2, 3, 4, 5, 6, 7, 8, 9, 10, 11, 12], [11])])
def lexer_ident.B8 : List Nat := [0, 1, 3, 7, 0, 16, 48, 112, 255, 511, 1023, 1023, 2047, 8191]
theorem lexer_ident.tab8 : rtab .any (opsOf Tryz.f105 8) = lexer_ident.T8 := by kernel_rfl
theorem lexer_ident.bits8 : waitsOk lexer_ident.T8.2 lexer_ident.B8 = true := by kernel_rfl
set_option maxHeartbeats 8000000 in
set_option maxRecDepth 100000 in
theorem ident_calls (k : Nat) (s : ByteArray) (g i j : Nat) (l : List UInt8) (hs : s.size ≤ 140737488351232) (hi : i ≤ s.size) (w : World) (h : Lx w g s i) (hf : identF k s i [] = some (l, j)) :
    Calls Tryz.prog 105 #[.pointer (some ⟨g, 0, none⟩)] w fun e w' => e = .returned (.string ⟨l.toArray⟩) ∧ Lx w' g s j ∧ Lk g w w' := by
  have hu := Tryz.underlying103
  have HS := Aside0.mk hs
  have HF := Aside0.mk hf
  have H1 := Aside0.mk h
  have HI := Aside0.mk hi
  have hg := (Array.getElem?_eq_some_iff.1 h).1
  have HG := Aside0.mk hg
  have hfr := Lib.fresh_isBuilder 81 5 w
  have HFR := Aside0.mk hfr
  clear hf h hs hi hg hfr
  go_enter Tryz.func105, Tryz.ntmps105
  go_wp2
  go_loopg [] k (fun kq wr => ∃ (i : Nat) (acc : List UInt8), Aside0 (i ≤ s.size) ∧ Aside0 (identF kq s i acc = some (l, j)) ∧ Aside0 (Lx wr g s i) ∧ Aside0 (Lk g w wr) ∧ Aside0 (Lib.IsBuilder 81 5 w.heap.size w.heap.size (Lib.byteCells acc) wr))
  case atStart => exact ⟨i, [], HI, HF, ⟨Lx.below H1.out ((Below.refl _ _).alloc (Nat.le_refl _) _)⟩, ⟨Lk.of_below ((Below.refl _ _).alloc (Nat.le_refl _) _)⟩, HFR⟩
  case round =>
    clear HF H1 HI HFR
    obtain ⟨i, acc, HI, HF, HX, HK, HD⟩ := hrel
    cases gk with
    | zero => exact absurd HF.out (by simp [identF])
    | succ k2 =>
      have hf := HF.out
      have hi := HI.out
      have hs := HS.out
      have HJ := Aside0.mk (show i ≤ 140737488351300 by omega)
      have HW0 := Aside0.mk (show IntKind.i64.wrap (i : Int) = (i : Int) from wrapE i 0 (by omega))
      clear HF
      rw [identF] at hf
      obtain ⟨a, ha, hf⟩ := Option.bind_eq_some_iff.mp hf
      have A1 := Aside0.mk ha
      clear ha
      cases a
      · rw [if_neg (by decide)] at hf
        obtain ⟨e, he, hf⟩ := Option.bind_eq_some_iff.mp hf
        have A2 := Aside0.mk he
        clear he
        cases e
        · rw [if_neg (by decide)] at hf
          obtain ⟨rfl, rfl⟩ := Prod.mk.inj (Option.some.inj hf)
          clear hf hi hs
          go_wp2_with (first | (go_at_call 102; with_reducible refine (is_inner0 s g i i HS.out HW0.out _ _ ?lx A1.out).mono ?_; (case lx => exact (by repeat (first | (with_reducible first | exact HX.out | apply Lx.drewN | apply Lx.drew)))); rintro e wi ⟨rfl, ⟨ni, rfl⟩⟩) | (go_at_call 125; with_reducible refine (escape_0 k2 s g i i HS.out HJ.out HW0.out _ _ ?lx A2.out).mono ?_; (case lx => exact (by repeat (first | (with_reducible first | exact HX.out | apply Lx.drewN | apply Lx.drew)))); rintro e wi ⟨rfl, hb⟩; have HX2 := Aside0.mk (Lx.below (by repeat (first | (with_reducible first | exact HX.out | apply Lx.drewN | apply Lx.drew))) hb); have HK2 := Aside0.mk (Lk.call (by repeat (first | (with_reducible first | exact HK.out | apply Lk.drewN | apply Lk.drew | apply Lk.set))) hb); have HD2 := Aside0.mk (isB_call (by repeat (first | (with_reducible first | exact HD.out | apply isB_drewN | apply isB_drew))) hb); clear hb; clear HX HK HD; have HX := HX2; have HK := HK2; have HD := HD2; clear HX2 HK2 HD2; have hc0 := HX.out.s; have hc1 := HX.out.i; have hz1 := HX.out.fz) | (go_at_call 60; refine (Tryz.Builder_String_any w.heap.size w.heap.size acc _ (by repeat (first | (with_reducible first | exact HD.out | apply isB_drewN | apply isB_drew))) (Nat.le_of_lt HD.out.lt0)).mono ?_; rintro e w7 ⟨rfl, hb7⟩; have HX7 := Aside0.mk (Lx.lower (by repeat (first | (with_reducible first | exact HX.out | apply Lx.drewN | apply Lx.drew))) hb7 HG.out); have HK7 := Aside0.mk (Lk.lower (by repeat (first | (with_reducible first | exact HK.out | apply Lk.drewN | apply Lk.drew | apply Lk.set))) hb7 (Nat.le_refl _)); clear hb7))
          go_ret
          exact ⟨rfl, HX7.out, HK7.out⟩
        · rw [if_pos rfl] at hf
          obtain ⟨⟨x, n⟩, hx, hf⟩ := Option.bind_eq_some_iff.mp hf
          have A3 := Aside0.mk hx
          clear hx
          try dsimp only at hf
          by_cases h1 : 0 ≤ n
          · rw [if_pos h1] at hf
            by_cases h2 : i + n.toNat ≤ s.size
            · rw [if_pos h2] at hf
              by_cases h3 : acc.length + x.size ≤ 10000000
              · rw [if_pos h3] at hf
                have A4 := Aside0.mk hf
                have HI2 := Aside0.mk h2
                have HLEN := Aside0.mk (show (Lib.byteCells acc).length + x.size ≤ 140737488355328 by unfold Lib.byteCells; rw [List.length_map]; omega)
                have hwn : wrap64 ((i : Int) + n) = ((i + n.toNat : Nat) : Int) := by unfold wrap64; omega
                have HWN := Aside0.mk hwn
                clear hf h1 h2 h3 hwn hi hs
                go_wp2_with (first | (go_at_call 102; with_reducible refine (is_inner0 s g i i HS.out HW0.out _ _ ?lx A1.out).mono ?_; (case lx => exact (by repeat (first | (with_reducible first | exact HX.out | apply Lx.drewN | apply Lx.drew)))); rintro e wi ⟨rfl, ⟨ni, rfl⟩⟩) | (go_at_call 125; with_reducible refine (escape_0 k2 s g i i HS.out HJ.out HW0.out _ _ ?lx A2.out).mono ?_; (case lx => exact (by repeat (first | (with_reducible first | exact HX.out | apply Lx.drewN | apply Lx.drew)))); rintro e wi ⟨rfl, hb⟩; have HX2 := Aside0.mk (Lx.below (by repeat (first | (with_reducible first | exact HX.out | apply Lx.drewN | apply Lx.drew))) hb); have HK2 := Aside0.mk (Lk.call (by repeat (first | (with_reducible first | exact HK.out | apply Lk.drewN | apply Lk.drew | apply Lk.set))) hb); have HD2 := Aside0.mk (isB_call (by repeat (first | (with_reducible first | exact HD.out | apply isB_drewN | apply isB_drew))) hb); clear hb; clear HX HK HD; have HX := HX2; have HK := HK2; have HD := HD2; clear HX2 HK2 HD2; have hc0 := HX.out.s; have hc1 := HX.out.i; have hz1 := HX.out.fz))
                have HX4 : Aside0 (Lx (wi).drew g s i) := Aside0.mk (Lx.drew (by repeat (first | (with_reducible first | exact HX.out | apply Lx.drewN | apply Lx.drew))))
                have HK4 : Aside0 (Lk g w (wi).drew) := Aside0.mk (Lk.drew (by repeat (first | (with_reducible first | exact HK.out | apply Lk.drewN | apply Lk.drew | apply Lk.set))))
                have HD4 : Aside0 (Lib.IsBuilder 81 5 w.heap.size w.heap.size (Lib.byteCells acc) (wi).drew) := Aside0.mk (isB_drew (by repeat (first | (with_reducible first | exact HD.out | apply isB_drewN | apply isB_drew))))
                refine start_ (n := 14) (S := (fun w' => w'.cell? ⟨g, 0, none⟩ = some (.string s) ∧ w'.cell? ⟨g, 1, none⟩ = some (.int .i64 (i : Int)))) (ds := []) #[false, false, false, false, false, false, false, false, false, false, false, false, false, false] (by kernel_rfl) rfl rfl ⟨HX4.out.s, HX4.out.i⟩ (fun hHeld => ?_)
                refine with_tabW lexer_ident.tab8 lexer_ident.bits8 (fun HT_ HW_ => ?_)
                generalize (wi).drew = w4 at HX4 HK4 HD4 hHeld ⊢
                refine pus_ 0 (some 33) #[true, false, false, false, false, false, false, false, false, false, false, false, false, false] rfl rfl HT_.out ?_
                refine pus_ 1 (some 34) #[true, true, false, false, false, false, false, false, false, false, false, false, false, false] rfl rfl HT_.out ?_
                refine pus_ 2 (some 35) #[true, true, true, false, false, false, false, false, false, false, false, false, false, false] rfl rfl HT_.out ?_
                refine tas_ 3 (some 36) #[true, true, true, true, false, false, false, false, false, false, false, false, false, false] rfl rfl HT_.out HW_.out hHeld ?_
                refine pus_ 4 (some 37) #[true, true, true, true, true, false, false, false, false, false, false, false, false, false] rfl rfl HT_.out ?_
                refine pus_ 5 (some 38) #[true, true, true, true, true, true, false, false, false, false, false, false, false, false] rfl rfl HT_.out ?_
                refine pus_ 6 (some 39) #[true, true, true, true, true, true, true, false, false, false, false, false, false, false] rfl rfl HT_.out ?_
                refine tas_ 7 (some 40) #[true, true, true, true, true, true, true, true, false, false, false, false, false, false] rfl rfl HT_.out HW_.out hHeld ?_
                refine one_ (i := 8) (N := (some 41)) #[true, true, true, true, true, true, true, true, true, false, false, false, false, false] rfl rfl (one_of HT_.out (by kernel_rfl)) (by decide) (fun K hK => ?_)
                refine goes_ Tryz.func129 (by kernel_rfl) rfl #[.string s, .int .i64 (i : Int)] (by rfl) rfl rfl goa_ ?_
                with_reducible refine (token_Hex.calls k2 s (i : Int) x n _ A3.out).mono ?_
                rintro e w5 ⟨rfl, hb⟩
                refine ⟨_, rfl, ?_⟩
                have HX5 := Aside0.mk (HX4.out.below hb)
                have HK5 := Aside0.mk (HK4.out.call hb)
                have HD5 := Aside0.mk (isB_call HD4.out hb)
                clear hb
                refine hK.out _ _ ⟨HX5.out.s, HX5.out.i⟩ (fun hHeld => ?_)
                clear hK K
                refine norm_ (a' := ?_) ?_ ?_
                rotate_left
                ·show Act.put _ (some 41) _ = _
                 simp only [Act.put, List.setIfInBounds_toArray, List.set_cons_zero, List.set_cons_succ, i64_w, i32_w]
                 rfl
                refine pus_ 9 (some 32) #[true, true, true, true, true, true, true, true, true, true, false, false, false, false] rfl rfl HT_.out ?_
                refine pus_ 10 (some 42) #[true, true, true, true, true, true, true, true, true, true, true, false, false, false] rfl rfl HT_.out ?_
                refine pus_ 11 (some 43) #[true, true, true, true, true, true, true, true, true, true, true, true, false, false] rfl rfl HT_.out ?_
                refine pus_ 12 (some 5) #[true, true, true, true, true, true, true, true, true, true, true, true, true, false] rfl rfl HT_.out ?_
                refine pus_ 13 (some 6) #[true, true, true, true, true, true, true, true, true, true, true, true, true, true] rfl rfl HT_.out ?_
                refine done_ (done_of HT_.out (by kernel_rfl)) ?_
                clear HX HK HD HX4 HK4 HD4
                have HX := HX5
                have HK := HK5
                have HD := HD5
                clear HX5 HK5 HD5
                have hc0 := HX.out.s
                have hc1 := HX.out.i
                have hz1 := HX.out.fz
                go_wp2_with (first | (go_at_call 59; refine (writeString_calls w.heap.size w.heap.size (Lib.byteCells acc) x _ (by repeat (first | (with_reducible first | exact HD.out | apply isB_drewN | apply isB_drew))) HLEN.out (Nat.le_of_lt HD.out.lt0)).mono ?_; rintro e w7 ⟨rfl, hd7, hb7⟩; have HX2 := Aside0.mk (Lx.lower (by repeat (first | (with_reducible first | exact HX.out | apply Lx.drewN | apply Lx.drew))) hb7 HG.out); have HK2 := Aside0.mk (Lk.lower (by repeat (first | (with_reducible first | exact HK.out | apply Lk.drewN | apply Lk.drew | apply Lk.set))) hb7 (Nat.le_refl _)); have HD2 := Aside0.mk (builtS hd7); clear hd7 hb7; clear HX HK HD; have HX := HX2; have HK := HK2; have HD := HD2; clear HX2 HK2 HD2; have hc0 := HX.out.s; have hc1 := HX.out.i; have hz1 := HX.out.fz))
                have hc0 := HX.out.s
                have hc1 := HX.out.i
                have hz1 := HX.out.fz
                go_wp2
                go_roundg k2
                case measure => omega
                case rel => exact ⟨i + n.toNat, acc ++ x.data.toList, HI2, A4, ⟨Lx.setv (by repeat (first | (with_reducible first | exact HX.out | apply Lx.drewN | apply Lx.drew))) HWN.out⟩, ⟨(by repeat (first | (with_reducible first | exact HK.out | apply Lk.drewN | apply Lk.drew | apply Lk.set)))⟩, ⟨isB_set (by repeat (first | (with_reducible first | exact HD.out | apply isB_drewN | apply isB_drew))) HG.out⟩⟩
              · rw [if_neg h3] at hf
                cases hf
            · rw [if_neg h2] at hf
              cases hf
          · rw [if_neg h1] at hf
            cases hf
      · rw [if_pos rfl] at hf
        by_cases hlt : i < s.size
        · rw [if_pos hlt] at hf
          by_cases h3 : acc.length ≤ 10000000
          · rw [if_pos h3] at hf
            have A4 := Aside0.mk hf
            have HLEN := Aside0.mk (show (Lib.byteCells acc).length + 1 ≤ 140737488355328 by unfold Lib.byteCells; rw [List.length_map]; omega)
            have HI2 := Aside0.mk (show i + 1 ≤ s.size by omega)
            have hw2 : wrap64 ((i : Int) + 1) = ((i + 1 : Nat) : Int) := by unfold wrap64; omega
            have HWN := Aside0.mk (show (i : Int) + 1 = ((i + 1 : Nat) : Int) by omega)
            have q0 : (0 ≤ (i : Int)) = True := eq_true (by omega)
            have q1 : ((i : Int) < (s.size : Int)) = True := eq_true (by omega)
            have q2 : decide ((i : Int) < (s.size : Int)) = true := decide_eq_true (by omega)
            have q3 : decide (i < s.size) = true := decide_eq_true hlt
            have q4 : (i < s.size) = True := eq_true hlt
            have hx : ∀ h : i < s.size, ((s[i].toNat : Nat) : Int) = bt s (i : Nat) := fun h => bt_at s (i : Int) (by simpa using h)
            clear hf h3 hi hs hlt
            go_wp2_with (first | (go_at_call 102; with_reducible refine (is_inner0 s g i i HS.out HW0.out _ _ ?lx A1.out).mono ?_; (case lx => exact (by repeat (first | (with_reducible first | exact HX.out | apply Lx.drewN | apply Lx.drew)))); rintro e wi ⟨rfl, ⟨ni, rfl⟩⟩))
            have HX4 : Aside0 (Lx (wr.drewN ni).drew g s i) := Aside0.mk (Lx.drew (by repeat (first | (with_reducible first | exact HX.out | apply Lx.drewN | apply Lx.drew))))
            have HK4 : Aside0 (Lk g w (wr.drewN ni).drew) := Aside0.mk (Lk.drew (by repeat (first | (with_reducible first | exact HK.out | apply Lk.drewN | apply Lk.drew | apply Lk.set))))
            have HD4 : Aside0 (Lib.IsBuilder 81 5 w.heap.size w.heap.size (Lib.byteCells acc) (wr.drewN ni).drew) := Aside0.mk (isB_drew (by repeat (first | (with_reducible first | exact HD.out | apply isB_drewN | apply isB_drew))))
            refine start_ (n := 10) (S := (fun w' => w'.cell? ⟨g, 0, none⟩ = some (.string s) ∧ w'.cell? ⟨g, 1, none⟩ = some (.int .i64 (i : Int)))) (ds := []) #[false, false, false, false, false, false, false, false, false, false] (by kernel_rfl) rfl rfl ⟨HX4.out.s, HX4.out.i⟩ (fun hHeld => ?_)
            refine with_tabW lexer_ident.tab5 lexer_ident.bits5 (fun HT_ HW_ => ?_)
            generalize (wr.drewN ni).drew = w4 at HX4 HK4 HD4 hHeld ⊢
            refine pus_ 0 (some 12) #[true, false, false, false, false, false, false, false, false, false] rfl rfl HT_.out ?_
            refine pus_ 1 (some 13) #[true, true, false, false, false, false, false, false, false, false] rfl rfl HT_.out ?_
            refine pus_ 2 (some 14) #[true, true, true, false, false, false, false, false, false, false] rfl rfl HT_.out ?_
            refine tas_ 3 (some 15) #[true, true, true, true, false, false, false, false, false, false] rfl rfl HT_.out HW_.out hHeld ?_
            refine pus_ 4 (some 16) #[true, true, true, true, true, false, false, false, false, false] rfl rfl HT_.out ?_
            refine pus_ 5 (some 17) #[true, true, true, true, true, true, false, false, false, false] rfl rfl HT_.out ?_
            refine pus_ 6 (some 18) #[true, true, true, true, true, true, true, false, false, false] rfl rfl HT_.out ?_
            refine tas_ 7 (some 19) #[true, true, true, true, true, true, true, true, false, false] rfl rfl HT_.out HW_.out hHeld ?_
            refine pus_ 8 (some 20) #[true, true, true, true, true, true, true, true, true, false] rfl rfl HT_.out ?_
            refine one_ (i := 9) (N := (some 21)) #[true, true, true, true, true, true, true, true, true, true] rfl rfl (one_of HT_.out (by kernel_rfl)) (by decide) (fun K hK => ?_)
            refine goes_ Tryz.func128 (by kernel_rfl) rfl #[.pointer (some ⟨w.heap.size, 0, none⟩), .int .u8 (bt s (i : Nat))] (by rfl) rfl rfl goa_ ?_
            refine (writeByte_calls w.heap.size w.heap.size (Lib.byteCells acc) (bt s (i : Nat)) _ HD4.out HLEN.out (Nat.le_of_lt HD4.out.lt0)).mono ?_
            rintro e w5 ⟨rfl, hd5, hb5⟩
            refine ⟨_, rfl, ?_⟩
            have HX5 := Aside0.mk (HX4.out.lower hb5 HG.out)
            have HK5 := Aside0.mk (HK4.out.lower hb5 (Nat.le_refl _))
            have HD5 := Aside0.mk (built1 (c := byteAt s i) (byteAt_val s i).symm hd5)
            clear hd5 hb5
            refine hK.out _ _ ⟨HX5.out.s, HX5.out.i⟩ (fun hHeld => ?_)
            clear hK K
            refine norm_ (a' := ?_) ?_ ?_
            rotate_left
            ·show Act.put _ (some 21) _ = _
             simp only [Act.put, List.setIfInBounds_toArray, List.set_cons_zero, List.set_cons_succ, i64_w, i32_w]
             rfl
            refine done_ (done_of HT_.out (by kernel_rfl)) ?_
            clear HX HK HD HX4 HK4 HD4
            have HX := HX5
            have HK := HK5
            have HD := HD5
            clear HX5 HK5 HD5
            have hc0 := HX.out.s
            have hc1 := HX.out.i
            have hz1 := HX.out.fz
            go_wp2
            go_roundg k2
            case measure => omega
            case rel => exact ⟨i + 1, acc ++ [byteAt s i], HI2, A4, ⟨Lx.setv (by repeat (first | (with_reducible first | exact HX.out | apply Lx.drewN | apply Lx.drew))) (by omega)⟩, ⟨(by repeat (first | (with_reducible first | exact HK.out | apply Lk.drewN | apply Lk.drew | apply Lk.set)))⟩, ⟨isB_set (by repeat (first | (with_reducible first | exact HD.out | apply isB_drewN | apply isB_drew))) HG.out⟩⟩
          · rw [if_neg h3] at hf
            cases hf
        · rw [if_neg hlt] at hf
          cases hf
end Go.Proofs.YtofdhdafabmhmaaGreatDoor.Giv
end
section
namespace Go.Proofs.YtofdhdafabmhmaaGreatDoor.Giv
open Go.RowKit Go.Proofs.YtofdhdafabmhmaaGreatDoorW.PrintWords Go.Proofs.YtofdhdafabmhmaaGreatDoorW.PrintLast Go.Proofs.YtofdhdafabmhmaaGreatDoorW.PrintMore Go.Proofs.YtofdhdafabmhmaaGreatDoor.PAr
open Go.Proofs.YtofdhdafabmhmaaGreatDoor.Opn Go.BigFrame
theorem isB_put {T e : TypeId} {B b g o : Nat} {v : Value} {l : List Value} {w : World} (hg : g < B) (h : Lib.IsBuilder T e B b l w) : Lib.IsBuilder T e B b l (w.setCell ⟨g, o, none⟩ v) := isB_set h hg
/-- What a quoted text means, and where it ends (an escape that is none, a line's end, a byte 0: none). -/
def quotF : Nat → ByteArray → Nat → List UInt8 → Int → Option (List UInt8 × Nat)
  | 0, _, _, _, _ => none
  | k + 1, s, i, acc, e => if i < s.size then (if bt s (i : Nat) = e then some (acc, i + 1) else ((token_feed.f (bt s (i : Nat))).bind fun f => if f = true then none else if bt s (i : Nat) = 0 then none else if bt s (i : Nat) = 92 then
      ((escF k s i).bind fun b => if b = true then ((token_Hex.f k s (i : Int)).bind fun t => if 0 ≤ t.2 then (if i + t.2.toNat ≤ s.size then (if acc.length + t.1.size ≤ 10000000 then quotF k s (i + t.2.toNat) (acc ++ t.1.data.toList) e else none) else none) else none) else none)
      else if acc.length ≤ 10000000 then quotF k s (i + 1) (acc ++ [byteAt s i]) e else none)) else none
theorem quotF.mono : ∀ k s i acc e, LeO (quotF k s i acc e) (quotF (k + 1) s i acc e)
  | 0, s, i, acc, e => LeO.none _
  | k + 1, s, i, acc, e => by
    rw [quotF, quotF]
    repeat' first
      | exact quotF.mono k _ _ _ _
      | (with_reducible exact escF.mono _ _ _)
      | (with_reducible exact token_Hex.mono _ _ _)
      | (with_reducible exact LeO.refl _)
      | (with_reducible exact LeO.none _)
      | (with_reducible refine LeO.ite ?_ ?_)
      | (with_reducible refine LeO.bind ?_ (fun _ => ?_))
def lexer_quoted.T13 : Bool × List (List Nat × List Nat) := (true, [([], []), ([0], [0]), ([1], [1]), ([2], [2]), ([], []), ([4], [4]), ([5], [5]), ([6], [6]), ([3, 7], [3, 7]), ([8], [8]), ([9], [9]), ([9], [9]), ([10, 8, 0, 1, 2, 3, 4, 5, 6, 7, 8, 9, 10], [10]), ([11, 12, 0, 1, 2, 3, 4, 5, 6, 7, 8, 9, 10, 11, 12], [11])])
def lexer_quoted.B13 : List Nat := [0, 1, 3, 7, 0, 16, 48, 112, 255, 511, 1023, 1023, 2047, 8191]
theorem lexer_quoted.tab13 : rtab .any (opsOf Tryz.f107 13) = lexer_quoted.T13 := by kernel_rfl
theorem lexer_quoted.bits13 : waitsOk lexer_quoted.T13.2 lexer_quoted.B13 = true := by kernel_rfl
set_option maxHeartbeats 8000000 in
set_option maxRecDepth 100000 in
theorem quoted_calls (k : Nat) (s : ByteArray) (g i j : Nat) (l : List UInt8) (hs : s.size ≤ 140737488351232) (hi : i < s.size) (w : World) (h : Lx w g s i) (hf : quotF k s (i + 1) [] (bt s (i : Nat)) = some (l, j)) :
    Calls Tryz.prog 107 #[.pointer (some ⟨g, 0, none⟩)] w fun e w' => e = .returned (.string ⟨l.toArray⟩) ∧ Lx w' g s j ∧ Lk g w w' := by
  have hu := Tryz.underlying103
  have HS := Aside0.mk hs
  have HF := Aside0.mk hf
  have H1 := Aside0.mk h
  have HI := Aside0.mk (show i + 1 ≤ s.size by omega)
  have hg := (Array.getElem?_eq_some_iff.1 h).1
  have HG := Aside0.mk hg
  have hlt := hi
  have hc0 := h.s
  have hc1 := h.i
  have hw2 : wrap64 ((i : Int) + 1) = ((i + 1 : Nat) : Int) := by unfold wrap64; omega
  have q0 : (0 ≤ (i : Int)) = True := eq_true (by omega)
  have q1 : ((i : Int) < (s.size : Int)) = True := eq_true (by omega)
  have q2 : decide ((i : Int) < (s.size : Int)) = true := decide_eq_true (by omega)
  have q3 : decide (i < s.size) = true := decide_eq_true hlt
  have q4 : (i < s.size) = True := eq_true hlt
  have hx : ∀ h : i < s.size, ((s[i].toNat : Nat) : Int) = bt s (i : Nat) := fun h => bt_at s (i : Int) (by simpa using h)
  clear hf h hs hi hg hlt
  go_enter Tryz.func107, Tryz.ntmps107
  go_wp2
  refine wp_region_quiet_lit (by kernel_rfl) (by kernel_rfl) ?_
  repeat (go_big_quiet_step (fail))
  refine wpQuiet_nil ?_
  intro _ hw'
  obtain ⟨nq, hw''⟩ := hw'
  subst hw''
  go_wp2_with (first | ((with_reducible refine gate_dst (N := 5) rfl ?_); (try (refine gate_guard (by rfl) ?_; dsimp only)); refine box_event ?hg (N := 5) ?hd (cs := #[.pointer none, .slice none 0 0]) (t := 81) ?hr ?_; (case hd => rfl); (case hg => rfl); (case hr => first | (go_simp; done) | (go_simp; rfl)); intro b5 hg w5 hbox hb; have hg2 : b5 = w.heap.size := hg; subst hg2; have HFR : Aside0 (Lib.IsBuilder 81 5 w.heap.size w.heap.size [] w5) := ⟨Or.inl ⟨Nat.le_refl _, .slice none 0 0, hbox, World.ownsRow_nil _ _ _ _, by simp [Value.ownBlock]⟩⟩; have HXA : Aside0 (Lx w5 g s i) := ⟨Lx.below (W := w.drewN nq) H1.out hb⟩; have HKA : Aside0 (Lk g w w5) := ⟨Lk.call ((Lk.refl g w).drewN nq) hb⟩; clear hg hbox hb hc0 hc1 H1; have hc0 := HXA.out.s; have hc1 := HXA.out.i; have hz1 := HXA.out.fz))
  clear hx
  generalize bt s (i : Nat) = en at HF ⊢
  go_loopg [] k (fun kq wr => ∃ (i2 : Nat) (acc : List UInt8), Aside0 (i2 ≤ s.size) ∧ Aside0 (quotF kq s i2 acc en = some (l, j)) ∧ Aside0 (Lx wr g s i2) ∧ Aside0 (Lk g w wr) ∧ Aside0 (Lib.IsBuilder 81 5 w.heap.size w.heap.size (Lib.byteCells acc) wr))
  case atStart => exact ⟨i + 1, [], HI, HF, ⟨Lx.setv HXA.out (by omega)⟩, ⟨Lk.set HKA.out _ _⟩, ⟨isB_set HFR.out HG.out⟩⟩
  case round =>
    clear HF HI HFR HXA HKA hc0 hc1 hz1 q0 q1 q2 q3 q4 hw2
    obtain ⟨i, acc, HI, HF, HX, HK, HD⟩ := hrel
    cases gk with
    | zero => exact absurd HF.out (by simp [quotF])
    | succ k2 =>
      have hf := HF.out
      have hi := HI.out
      have hs := HS.out
      have HJ := Aside0.mk (show i ≤ 140737488351300 by omega)
      have HW0 := Aside0.mk (show IntKind.i64.wrap (i : Int) = (i : Int) from wrapE i 0 (by omega))
      have hc0 := HX.out.s
      have hc1 := HX.out.i
      have hz1 := HX.out.fz
      clear HF
      rw [quotF] at hf
      by_cases hlt : i < s.size
      · rw [if_pos hlt] at hf
        have hw2 : wrap64 ((i : Int) + 1) = ((i + 1 : Nat) : Int) := by unfold wrap64; omega
        have HI2 := Aside0.mk (show i + 1 ≤ s.size by omega)
        have HWN := Aside0.mk (show (i : Int) + 1 = ((i + 1 : Nat) : Int) by omega)
        have q0 : (0 ≤ (i : Int)) = True := eq_true (by omega)
        have q1 : ((i : Int) < (s.size : Int)) = True := eq_true (by omega)
        have q2 : decide ((i : Int) < (s.size : Int)) = true := decide_eq_true (by omega)
        have q3 : decide (i < s.size) = true := decide_eq_true hlt
        have q4 : (i < s.size) = True := eq_true hlt
        have hx : ∀ h : i < s.size, ((s[i].toNat : Nat) : Int) = bt s (i : Nat) := fun h => bt_at s (i : Int) (by simpa using h)
        have q7 : decide ((i : Int) ≥ (s.size : Int)) = false := decide_eq_false (by omega)
        have q8 : decide ((s.size : Int) ≤ (i : Int)) = false := decide_eq_false (by omega)
        have q9 : decide (s.size ≤ i) = false := decide_eq_false (by omega)
        by_cases hen : bt s (i : Nat) = en
        · rw [if_pos hen] at hf
          obtain ⟨rfl, rfl⟩ := Prod.mk.inj (Option.some.inj hf)
          have p1 : (bt s (i : Nat) != en) = false := bne_eq_false_iff_eq.mpr hen
          have p2 : (bt s (i : Nat) == en) = true := beq_iff_eq.mpr hen
          clear hf hi hs hlt hen
          go_wp2
          refine wp_region_quiet_lit (by kernel_rfl) (by kernel_rfl) ?_
          repeat (go_big_quiet_step (fail))
          refine wpQuiet_nil ?_
          intro _ hw'
          obtain ⟨nq, hw''⟩ := hw'
          subst hw''
          go_wp2
          refine wp_region_quiet_lit (by kernel_rfl) (by kernel_rfl) ?_
          repeat (go_big_quiet_step (fail))
          refine wpQuiet_nil ?_
          intro _ hw'
          obtain ⟨nq, hw''⟩ := hw'
          subst hw''
          go_wp2_with (first | (go_at_call 60; refine (Tryz.Builder_String_any w.heap.size w.heap.size acc _ ?bd ?lt).mono ?_; (case bd => exact (by repeat (first | (with_reducible first | exact HD.out | apply isB_drewN | apply isB_drew | apply isB_put HG.out)))); (case lt => first | exact Nat.le_of_lt HD.out.lt0 | (refine Nat.le_of_lt ?_; have h_ := HD.out.lt0; simpa [World.setCell] using h_)); rintro e w7 ⟨rfl, hb7⟩; have HX7 := Aside0.mk (Lx.lower (i := i + 1) (Lx.setv (by repeat (first | (with_reducible first | exact HX.out | apply Lx.drewN | apply Lx.drew))) (by first | with_reducible rfl | with_reducible exact hw2 | omega)) hb7 HG.out); have HK7 := Aside0.mk (Lk.lower (by repeat (first | (with_reducible first | exact HK.out | apply Lk.drewN | apply Lk.drew | apply Lk.set))) hb7 (Nat.le_refl _)); clear hb7))
          go_ret
          exact ⟨rfl, HX7.out, HK7.out⟩
        · rw [if_neg hen] at hf
          have p1 : (bt s (i : Nat) != en) = true := bne_iff_ne.mpr hen
          have p2 : (bt s (i : Nat) == en) = false := beq_eq_false_iff_ne.mpr hen
          obtain ⟨f, hff, hf⟩ := Option.bind_eq_some_iff.mp hf
          have A1 := Aside0.mk hff
          clear hff
          cases f
          · rw [if_neg (by decide)] at hf
            by_cases h0 : bt s (i : Nat) = 0
            · rw [if_pos h0] at hf
              cases hf
            · rw [if_neg h0] at hf
              have p3 : (bt s (i : Nat) == 0) = false := beq_eq_false_iff_ne.mpr h0
              by_cases h9 : bt s (i : Nat) = 92
              · rw [if_pos h9] at hf
                have p4 : (bt s (i : Nat) != 92) = false := bne_eq_false_iff_eq.mpr h9
                obtain ⟨e, he, hf⟩ := Option.bind_eq_some_iff.mp hf
                have A2 := Aside0.mk he
                clear he
                cases e
                · rw [if_neg (by decide)] at hf
                  cases hf
                · rw [if_pos rfl] at hf
                  obtain ⟨⟨x, n⟩, hxx, hf⟩ := Option.bind_eq_some_iff.mp hf
                  have A3 := Aside0.mk hxx
                  clear hxx
                  try dsimp only at hf
                  by_cases h1 : 0 ≤ n
                  · rw [if_pos h1] at hf
                    by_cases h2 : i + n.toNat ≤ s.size
                    · rw [if_pos h2] at hf
                      by_cases h3 : acc.length + x.size ≤ 10000000
                      · rw [if_pos h3] at hf
                        have A4 := Aside0.mk hf
                        have HI3 := Aside0.mk h2
                        have HLEN := Aside0.mk (show (Lib.byteCells acc).length + x.size ≤ 140737488355328 by unfold Lib.byteCells; rw [List.length_map]; omega)
                        have hwn : wrap64 ((i : Int) + n) = ((i + n.toNat : Nat) : Int) := by unfold wrap64; omega
                        have HWN2 := Aside0.mk hwn
                        clear hf h1 h2 h3 hwn hi hs hlt hen h0 h9
                        go_wp2
                        refine wp_region_quiet_lit (by kernel_rfl) (by kernel_rfl) ?_
                        repeat (go_big_quiet_step (fail))
                        refine wpQuiet_nil ?_
                        intro _ hw'
                        obtain ⟨nq, hw''⟩ := hw'
                        subst hw''
                        go_wp2
                        refine wp_region_quiet_lit (by kernel_rfl) (by kernel_rfl) ?_
                        repeat (go_big_quiet_step (fail))
                        refine wpQuiet_nil ?_
                        intro _ hw'
                        obtain ⟨nq, hw''⟩ := hw'
                        subst hw''
                        go_wp2_with (first | (go_at_call 120; with_reducible refine (token_feed.calls _ _ _ A1.out).mono ?_; rintro e wf ⟨rfl, ⟨nf, rfl⟩⟩) | (go_at_call 125; with_reducible refine (escape_0 k2 s g i i HS.out HJ.out HW0.out _ _ ?lx A2.out).mono ?_; (case lx => exact (by repeat (first | (with_reducible first | exact HX.out | apply Lx.drewN | apply Lx.drew)))); rintro e wi ⟨rfl, hb⟩; have HX2 := Aside0.mk (Lx.below (by repeat (first | (with_reducible first | exact HX.out | apply Lx.drewN | apply Lx.drew))) hb); have HK2 := Aside0.mk (Lk.call (by repeat (first | (with_reducible first | exact HK.out | apply Lk.drewN | apply Lk.drew | apply Lk.set))) hb); have HD2 := Aside0.mk (isB_call (by repeat (first | (with_reducible first | exact HD.out | apply isB_drewN | apply isB_drew))) hb); clear hb; clear HX HK HD; have HX := HX2; have HK := HK2; have HD := HD2; clear HX2 HK2 HD2; have hc0 := HX.out.s; have hc1 := HX.out.i; have hz1 := HX.out.fz))
                        have HX4 : Aside0 (Lx (wi).drew g s i) := Aside0.mk (Lx.drew (by repeat (first | (with_reducible first | exact HX.out | apply Lx.drewN | apply Lx.drew))))
                        have HK4 : Aside0 (Lk g w (wi).drew) := Aside0.mk (Lk.drew (by repeat (first | (with_reducible first | exact HK.out | apply Lk.drewN | apply Lk.drew | apply Lk.set))))
                        have HD4 : Aside0 (Lib.IsBuilder 81 5 w.heap.size w.heap.size (Lib.byteCells acc) (wi).drew) := Aside0.mk (isB_drew (by repeat (first | (with_reducible first | exact HD.out | apply isB_drewN | apply isB_drew))))
                        refine start_ (n := 14) (S := (fun w' => w'.cell? ⟨g, 0, none⟩ = some (.string s) ∧ w'.cell? ⟨g, 1, none⟩ = some (.int .i64 (i : Int)))) (ds := []) #[false, false, false, false, false, false, false, false, false, false, false, false, false, false] (by kernel_rfl) rfl rfl ⟨HX4.out.s, HX4.out.i⟩ (fun hHeld => ?_)
                        refine with_tabW lexer_quoted.tab13 lexer_quoted.bits13 (fun HT_ HW_ => ?_)
                        generalize (wi).drew = w4 at HX4 HK4 HD4 hHeld ⊢
                        refine pus_ 0 (some 90) #[true, false, false, false, false, false, false, false, false, false, false, false, false, false] rfl rfl HT_.out ?_
                        refine pus_ 1 (some 91) #[true, true, false, false, false, false, false, false, false, false, false, false, false, false] rfl rfl HT_.out ?_
                        refine pus_ 2 (some 92) #[true, true, true, false, false, false, false, false, false, false, false, false, false, false] rfl rfl HT_.out ?_
                        refine tas_ 3 (some 93) #[true, true, true, true, false, false, false, false, false, false, false, false, false, false] rfl rfl HT_.out HW_.out hHeld ?_
                        refine pus_ 4 (some 94) #[true, true, true, true, true, false, false, false, false, false, false, false, false, false] rfl rfl HT_.out ?_
                        refine pus_ 5 (some 95) #[true, true, true, true, true, true, false, false, false, false, false, false, false, false] rfl rfl HT_.out ?_
                        refine pus_ 6 (some 96) #[true, true, true, true, true, true, true, false, false, false, false, false, false, false] rfl rfl HT_.out ?_
                        refine tas_ 7 (some 97) #[true, true, true, true, true, true, true, true, false, false, false, false, false, false] rfl rfl HT_.out HW_.out hHeld ?_
                        refine one_ (i := 8) (N := (some 98)) #[true, true, true, true, true, true, true, true, true, false, false, false, false, false] rfl rfl (one_of HT_.out (by kernel_rfl)) (by decide) (fun K hK => ?_)
                        refine goes_ Tryz.func129 (by kernel_rfl) rfl #[.string s, .int .i64 (i : Int)] (by rfl) rfl rfl goa_ ?_
                        with_reducible refine (token_Hex.calls k2 s (i : Int) x n _ A3.out).mono ?_
                        rintro e w5 ⟨rfl, hb⟩
                        refine ⟨_, rfl, ?_⟩
                        have HX5 := Aside0.mk (HX4.out.below hb)
                        have HK5 := Aside0.mk (HK4.out.call hb)
                        have HD5 := Aside0.mk (isB_call HD4.out hb)
                        clear hb
                        refine hK.out _ _ ⟨HX5.out.s, HX5.out.i⟩ (fun hHeld => ?_)
                        clear hK K
                        refine norm_ (a' := ?_) ?_ ?_
                        rotate_left
                        ·show Act.put _ (some 98) _ = _
                         simp only [Act.put, List.setIfInBounds_toArray, List.set_cons_zero, List.set_cons_succ, i64_w, i32_w]
                         rfl
                        refine pus_ 9 (some 89) #[true, true, true, true, true, true, true, true, true, true, false, false, false, false] rfl rfl HT_.out ?_
                        refine pus_ 10 (some 99) #[true, true, true, true, true, true, true, true, true, true, true, false, false, false] rfl rfl HT_.out ?_
                        refine pus_ 11 (some 100) #[true, true, true, true, true, true, true, true, true, true, true, true, false, false] rfl rfl HT_.out ?_
                        refine pus_ 12 (some 7) #[true, true, true, true, true, true, true, true, true, true, true, true, true, false] rfl rfl HT_.out ?_
                        refine pus_ 13 (some 8) #[true, true, true, true, true, true, true, true, true, true, true, true, true, true] rfl rfl HT_.out ?_
                        refine done_ (done_of HT_.out (by kernel_rfl)) ?_
                        clear HX HK HD HX4 HK4 HD4
                        have HX := HX5
                        have HK := HK5
                        have HD := HD5
                        clear HX5 HK5 HD5
                        have hc0 := HX.out.s
                        have hc1 := HX.out.i
                        have hz1 := HX.out.fz
                        go_wp2_with (first | (go_at_call 59; refine (writeString_calls w.heap.size w.heap.size (Lib.byteCells acc) x _ (by repeat (first | (with_reducible first | exact HD.out | apply isB_drewN | apply isB_drew))) HLEN.out (Nat.le_of_lt HD.out.lt0)).mono ?_; rintro e w7 ⟨rfl, hd7, hb7⟩; have HX2 := Aside0.mk (Lx.lower (by repeat (first | (with_reducible first | exact HX.out | apply Lx.drewN | apply Lx.drew))) hb7 HG.out); have HK2 := Aside0.mk (Lk.lower (by repeat (first | (with_reducible first | exact HK.out | apply Lk.drewN | apply Lk.drew | apply Lk.set))) hb7 (Nat.le_refl _)); have HD2 := Aside0.mk (builtS hd7); clear hd7 hb7; clear HX HK HD; have HX := HX2; have HK := HK2; have HD := HD2; clear HX2 HK2 HD2; have hc0 := HX.out.s; have hc1 := HX.out.i; have hz1 := HX.out.fz))
                        have hc0 := HX.out.s
                        have hc1 := HX.out.i
                        have hz1 := HX.out.fz
                        go_wp2
                        go_roundg k2
                        case measure => omega
                        case rel => exact ⟨i + n.toNat, acc ++ x.data.toList, HI3, A4, ⟨Lx.setv (by repeat (first | (with_reducible first | exact HX.out | apply Lx.drewN | apply Lx.drew))) HWN2.out⟩, ⟨(by repeat (first | (with_reducible first | exact HK.out | apply Lk.drewN | apply Lk.drew | apply Lk.set)))⟩, ⟨isB_set (by repeat (first | (with_reducible first | exact HD.out | apply isB_drewN | apply isB_drew))) HG.out⟩⟩
                      · rw [if_neg h3] at hf
                        cases hf
                    · rw [if_neg h2] at hf
                      cases hf
                  · rw [if_neg h1] at hf
                    cases hf
              · rw [if_neg h9] at hf
                have p4 : (bt s (i : Nat) != 92) = true := bne_iff_ne.mpr h9
                by_cases h3 : acc.length ≤ 10000000
                · rw [if_pos h3] at hf
                  have A4 := Aside0.mk hf
                  have HLEN := Aside0.mk (show (Lib.byteCells acc).length + 1 ≤ 140737488355328 by unfold Lib.byteCells; rw [List.length_map]; omega)
                  clear hf h3 hi hs hlt hen h0 h9
                  go_wp2
                  refine wp_region_quiet_lit (by kernel_rfl) (by kernel_rfl) ?_
                  repeat (go_big_quiet_step (fail))
                  refine wpQuiet_nil ?_
                  intro _ hw'
                  obtain ⟨nq, hw''⟩ := hw'
                  subst hw''
                  go_wp2
                  refine wp_region_quiet_lit (by kernel_rfl) (by kernel_rfl) ?_
                  repeat (go_big_quiet_step (fail))
                  refine wpQuiet_nil ?_
                  intro _ hw'
                  obtain ⟨nq, hw''⟩ := hw'
                  subst hw''
                  go_wp2_with (first | (go_at_call 120; with_reducible refine (token_feed.calls _ _ _ A1.out).mono ?_; rintro e wf ⟨rfl, ⟨nf, rfl⟩⟩) | (go_at_call 128; refine (writeByte_calls w.heap.size w.heap.size (Lib.byteCells acc) (bt s (i : Nat)) _ ?bd HLEN.out ?lt).mono ?_; (case bd => exact (by repeat (first | (with_reducible first | exact HD.out | apply isB_drewN | apply isB_drew)))); (case lt => exact Nat.le_of_lt HD.out.lt0); rintro e w5 ⟨rfl, hd5, hb5⟩; have HX2 := Aside0.mk (Lx.lower (by repeat (first | (with_reducible first | exact HX.out | apply Lx.drewN | apply Lx.drew))) hb5 HG.out); have HK2 := Aside0.mk (Lk.lower (by repeat (first | (with_reducible first | exact HK.out | apply Lk.drewN | apply Lk.drew | apply Lk.set))) hb5 (Nat.le_refl _)); have HD2 := Aside0.mk (built1 (c := byteAt s i) (byteAt_val s i).symm hd5); clear hd5 hb5; clear HX HK HD; have HX := HX2; have HK := HK2; have HD := HD2; clear HX2 HK2 HD2; have hc0 := HX.out.s; have hc1 := HX.out.i; have hz1 := HX.out.fz))
                  have hc0 := HX.out.s
                  have hc1 := HX.out.i
                  have hz1 := HX.out.fz
                  go_wp2
                  go_roundg k2
                  case measure => omega
                  case rel => exact ⟨i + 1, acc ++ [byteAt s i], HI2, A4, ⟨Lx.setv (by repeat (first | (with_reducible first | exact HX.out | apply Lx.drewN | apply Lx.drew))) (by omega)⟩, ⟨(by repeat (first | (with_reducible first | exact HK.out | apply Lk.drewN | apply Lk.drew | apply Lk.set)))⟩, ⟨isB_set (by repeat (first | (with_reducible first | exact HD.out | apply isB_drewN | apply isB_drew))) HG.out⟩⟩
                · rw [if_neg h3] at hf
                  cases hf
          · rw [if_pos rfl] at hf
            cases hf
      · rw [if_neg hlt] at hf
        cases hf
end Go.Proofs.YtofdhdafabmhmaaGreatDoor.Giv
end
