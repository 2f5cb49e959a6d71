/- area.each: the iterator over all cells that have names: its contract (rows are read between two rounds). -/
import Derived.Test.YtaalmkkekbhpnaaPRax4
import Derived.Test.YtaalmkkekbhpnaaOpen
import Derived.Test.YtaalmkkekbhpnaaWTab
import Derived.RangeFuncNested
import Derived.RangeFuncBound
import Derived.RangeFuncCalls
import Derived.RangeFuncLeaves
import Derived.Shelf.Abstract
import Derived.Lib.Strings
import Derived.Shelf.RegionOpen
import Derived.OwnWalkIn
import Derived.TacticsInMore
import Derived.LoopNIn
import Derived.LoopIn
set_option linter.unusedVariables false
set_option linter.unusedSimpArgs false
namespace Go.Proofs.Ytaalmkkekbhpnaa.Giv
open Go.RowKit Go.Shelf Go.Proofs.YtaalmkkekbhpnaaW.PrintWords Go.Proofs.YtaalmkkekbhpnaaW.PrintLast Go.Proofs.YtaalmkkekbhpnaaW.PrintMore
open Go.Proofs.Ytaalmkkekbhpnaa.Opn Go.Proofs.Ytaalmkkekbhpnaa.PRa
/-- All cells that have names, row by row: the name, the row, the column. -/
def area_boxes.row (r : Nat) : List ByteArray → Nat → List (ByteArray × Int × Int)
  | [], _ => []
  | s :: l, c => if s.size = 0 then area_boxes.row r l (c + 1) else (s, (r : Int), (c : Int)) :: area_boxes.row r l (c + 1)
def area_boxes.cells : List (List ByteArray) → Nat → List (ByteArray × Int × Int)
  | [], _ => []
  | l :: ls, r => area_boxes.row r l 0 ++ area_boxes.cells ls (r + 1)
/-- A cell whose name can be a key. -/
abbrev ArCell := { x : ByteArray × Int × Int // x.1.size ≤ maxLen }
def ArCell.enc (x : ArCell) : Array Value := #[.agg #[.string x.1.1, .int .i64 x.1.2.1, .int .i64 x.1.2.2, .int .i64 1, .int .i64 1], .string x.1.1]
theorem ar_row_drop (r : Nat) (l : List ByteArray) (j : Nat) (h : j < l.length) : area_boxes.row r (l.drop j) j = (if (l.getD j ByteArray.empty).size = 0 then [] else [(l.getD j ByteArray.empty, (r : Int), (j : Int))]) ++ area_boxes.row r (l.drop (j + 1)) (j + 1) := by
  rw [List.drop_eq_getElem_cons h, area_boxes.row, List.getD_eq_getElem?_getD, List.getElem?_eq_getElem h]
  simp only [Option.getD_some]
  split <;> simp
theorem ar_cells_drop (l0 : List (List ByteArray)) (i : Nat) (h : i < l0.length) : area_boxes.cells (l0.drop i) i = area_boxes.row i (l0.getD i []) 0 ++ area_boxes.cells (l0.drop (i + 1)) (i + 1) := by
  rw [List.drop_eq_getElem_cons h, area_boxes.cells, List.getD_eq_getElem?_getD, List.getElem?_eq_getElem h]
  simp only [Option.getD_some]
attribute [local go_sem] Oper.semAt_some
set_option maxRecDepth 100000 in
set_option maxHeartbeats 4000000 in
theorem ar_each1_in (F : Fence) (n : Nat) (h82 : F.fn 33) (hro : F.round = none) (hn : 1 ≤ n) (l Bn : Nat) (A0 : Option Addr) (c0 : Nat) (l0 : List (List ByteArray)) (w0 : World)
    (hC : Kd.C (Kd.slice 9 Kd.string) w0 A0 l0.length l0) (hc0 : l0.length ≤ c0) (hL : l0.length < 1000000) (hL2 : ∀ l ∈ l0, l.length < 1000000)
    (xs : List ArCell) (hxs : xs.map (·.1) = area_boxes.cells l0 0) (J Jx : List ArCell → World → Prop)
    (hY : ∀ pre x W, J pre W → pre.length < xs.length → YieldAt F (n - 1) Try.prog l (ArCell.enc x) W fun e W' =>
      (e = .returned (.bool true) ∧ J (pre ++ [x]) W' ∧ Below w0.heap.size W W') ∨ (e = .returned (.bool false) ∧ Jx (pre ++ [x]) W'))
    (W : World) (hBn : W.cell? ⟨Bn, 0, none⟩ = some (.slice A0 l0.length c0)) (hB : Below w0.heap.size w0 W) (h0 : J [] W) :
    CallsIn F n Try.prog 33 #[.func (.yield l) #[] #[], .pointer (some ⟨Bn, 0, none⟩)] W fun e W' => (∃ v, e = .returned v) ∧
      ((∃ ys, ys = xs ∧ J ys W') ∨ (∃ pre, pre <+: xs ∧ Jx pre W')) := by
  refine callsIn_of_wp Try.func33 rfl h82 ?_ hro
  simp only [Try.ntmps33, List.size_toArray, List.length_cons, List.length_nil, Nat.reduceAdd, Nat.reduceSub, Array.replicate_succ, Array.replicate_zero, List.push_toArray, List.append_toArray, List.nil_append, List.cons_append]
  gi_wp2
  gi_loopw [9] (fun v9 wr => ∃ (i : Nat) (pre rest : List ArCell), i ≤ l0.length ∧ v9 = .int .i64 i ∧ xs = pre ++ rest ∧ rest.map (·.1) = area_boxes.cells (l0.drop i) i ∧ J pre wr ∧ Below w0.heap.size w0 wr)
    (fun v9 _ => l0.length - (intOf v9).toNat)
  case atStart => exact ⟨0, [], xs, Nat.zero_le _, rfl, rfl, hxs, h0, hB⟩
  case round =>
    obtain ⟨i, pre, rest, hi, rfl, hx, hr, hJs, hb⟩ := hrel
    by_cases hlt : i < l0.length
    · obtain ⟨ad, A1, c1, rfl, hx1, hl1, hi1⟩ := at_L1 hC (i : Int) (by omega) (by omega)
      replace hx1 := pw_cell_below hb hx1
      obtain ⟨row, hrow⟩ : ∃ row, rd_L1 l0 (i : Int) = row := ⟨_, rfl⟩
      have hrm : row.length < 1000000 := by
        rw [← hrow]
        refine hL2 _ ?_
        unfold rd_L1
        rw [Int.toNat_natCast, List.getD_eq_getElem?_getD, List.getElem?_eq_getElem hlt]
        exact List.getElem_mem _
      have hrd : l0.getD i [] = row := hrow
      rw [hrow] at hx1 hl1 hi1
      rw [ar_cells_drop l0 i hlt, hrd] at hr
      rw [Int.toNat_natCast] at hx1
      have HI := Aside0.mk hi1
      clear hi1
      gi_wp2
      gi_loopw [16] (fun v16 wq => ∃ (j : Nat) (pre1 rest1 : List ArCell), j ≤ row.length ∧ v16 = .int .i64 j ∧ xs = pre1 ++ rest1 ∧ rest1.map (·.1) = area_boxes.row i (row.drop j) j ++ area_boxes.cells (l0.drop (i + 1)) (i + 1) ∧ J pre1 wq ∧ Below w0.heap.size w0 wq)
        (fun v16 _ => row.length - (intOf v16).toNat)
      case atStart => exact ⟨0, pre, rest, Nat.zero_le _, rfl, hx, hr, hJs, hb⟩
      case round =>
        obtain ⟨j, pre1, rest1, hj, rfl, hx2, hr1, hJ1, hb1⟩ := hrel
        by_cases hjt : j < row.length
        · obtain ⟨ad1, rfl, hy1⟩ := Kd.at_string (Kd.C_below HI.out hb1) (j : Int) (by omega) (by omega)
          rw [ar_row_drop i row j hjt, show row.getD j ByteArray.empty = rdOf ByteArray.empty row (j : Int) from rfl] at hr1
          revert hy1 hr1
          generalize rdOf ByteArray.empty row (j : Int) = s
          intro hr1 hy1
          rw [Int.toNat_natCast] at hy1
          by_cases hs : s.size = 0
          · obtain rfl : s = ⟨#[]⟩ := by
              obtain ⟨d⟩ := s
              obtain rfl : d = #[] := Array.size_eq_zero_iff.1 hs
              rfl
            rw [if_pos hs, List.nil_append] at hr1
            gi_wp2
            refine ⟨fun _ h => (by cases h), ?_⟩
            gi_wp2
            go_roundw
            case rel => exact ⟨j + 1, pre1, rest1, by omega, by simp, hx2, hr1, hJ1, hb1⟩
            case measure => simp [intOf]; omega
          · rw [if_neg hs] at hr1
            cases rest1 with
            | nil => simp at hr1
            | cons x rest2 =>
              obtain ⟨⟨xn, xr, xc⟩, hxb⟩ := x
              simp only [List.map_cons, List.cons_append, List.nil_append, List.cons.injEq, Prod.mk.injEq] at hr1
              obtain ⟨⟨rfl, rfl, rfl⟩, hr2⟩ := hr1
              obtain ⟨fn, tmps, assign, body, hy, hR⟩ := hY pre1 ⟨(xn, (i : Int), (j : Int)), hxb⟩ wr hJ1 (by rw [hx2]; simp)
              simp only [ArCell.enc] at hy
              have e0 : xn.toList ≠ ([] : List UInt8) := by
                intro h
                apply hs
                show xn.data.size = 0
                rw [← Array.length_toList, ← Go.Lib.toList_data, h]
                rfl
              have e1 : (xn.toList == ([] : List UInt8)) = false := beq_eq_false_iff_ne.2 e0
              have e2 : (xn.toList != ([] : List UInt8)) = true := bne_iff_ne.2 e0
              gi_wp2
              refine hR.mono ?_
              rintro e W3 (⟨rfl, hJ3, hk3⟩ | ⟨rfl, hJx3⟩)
              · gi_wp2
                go_roundw
                case rel => exact ⟨j + 1, pre1 ++ [⟨(xn, (i : Int), (j : Int)), hxb⟩], rest2, by omega, by simp, by rw [hx2]; simp, hr2, hJ3, hb1.trans hk3⟩
                case measure => simp [intOf]; omega
              · gi_wp2
                refine bodyPost_ret (results_none rfl _ _ _) rfl ?_
                exact ⟨⟨_, rfl⟩, .inr ⟨_, ⟨rest2, by rw [hx2]; simp⟩, hJx3⟩⟩
        · obtain rfl : j = row.length := by omega
          gi_wp2
          go_roundw
          case rel => exact ⟨i + 1, pre1, rest1, by omega, by simp, hx2, by simpa [area_boxes.row] using hr1, hJ1, hb1⟩
          case measure => simp [intOf]; omega
    · obtain rfl : i = l0.length := by omega
      gi_wp2
      go_end0
      have hz : rest = [] := by
        have := congrArg List.length hr
        simpa [area_boxes.cells] using this
      exact ⟨⟨_, rfl⟩, .inl ⟨pre, by rw [hx, hz, List.append_nil], hJs⟩⟩
set_option maxHeartbeats 1000000 in
/-- area.each: the rows are boxed; the function value captures the box. -/
theorem ar_each_in (F : Fence) (n : Nat) (h56 : F.fn 28) (hro : F.round = none) (A0 : Option Addr) (m c0 : Nat) (w : World) :
    CallsIn F n Try.prog 28 #[.slice A0 m c0] w fun e w' => e = .returned (.func (.func 33) #[] #[.pointer (some ⟨w.heap.size, 0, none⟩)]) ∧ w' = w.alloc (.cells #[.slice A0 m c0] 22) := by
  refine callsIn_of_wp Try.func28 rfl h56 ?_ hro
  simp only [Try.ntmps28, List.size_toArray, List.length_cons, List.length_nil, Nat.reduceAdd, Nat.reduceSub, Array.replicate_succ, Array.replicate_zero, List.push_toArray, List.append_toArray, List.nil_append, List.cons_append]
  gi_wp2
  go_ret
  exact ⟨rfl, rfl⟩
/-- The function value SeqStopsK, at 'Below n₀'. -/
theorem ar_each_stops (F : Fence) (n : Nat) (h82 : F.fn 33) (hro : F.round = none) (hn : 1 ≤ n) (Bn : Nat) (A0 : Option Addr) (c0 : Nat) (l0 : List (List ByteArray)) (w0 : World)
    (hC : Kd.C (Kd.slice 9 Kd.string) w0 A0 l0.length l0) (hc0 : l0.length ≤ c0) (hL : l0.length < 1000000) (hL2 : ∀ l ∈ l0, l.length < 1000000)
    (xs : List ArCell) (hxs : xs.map (·.1) = area_boxes.cells l0 0) (w : World) (hBn : Bn < w.heap.size) (hB : Below w0.heap.size w0 w) (hc : w.cell? ⟨Bn, 0, none⟩ = some (.slice A0 l0.length c0)) :
    SeqStopsK F n Try.prog 33 #[.pointer (some ⟨Bn, 0, none⟩)] ArCell.enc (Below w0.heap.size) (fun ys => ys = xs) (fun pre => pre <+: xs) xs.length w := fun l J Jx W hW _ _ hY h0 =>
  ar_each1_in F n h82 hro hn l Bn A0 c0 l0 w0 hC hc0 hL hL2 xs hxs J Jx hY W ((hW.cell (p := ⟨Bn, 0, none⟩) hBn).trans hc) (hB.trans (hW.mono hB.size)) h0
end Go.Proofs.Ytaalmkkekbhpnaa.Giv
