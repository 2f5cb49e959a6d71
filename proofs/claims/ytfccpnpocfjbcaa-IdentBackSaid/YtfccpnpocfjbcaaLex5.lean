import Derived.Test.YtfccpnpocfjbcaaPTkx2
import Derived.Test.YtfccpnpocfjbcaaPTkx5
import Derived.Test.YtfccpnpocfjbcaaPTkx6
import Derived.Test.YtfccpnpocfjbcaaPTkx8
import Derived.Test.YtfccpnpocfjbcaaSq
import Derived.BigRegion
import Derived.BigQuiet
import Derived.Deep.QuietTactic
import Derived.Test.YtfccpnpocfjbcaaLex4
import Derived.Test.YtfccpnpocfjbcaaGbuilder
import Derived.Test.YtfccpnpocfjbcaaShelf
namespace Go.Proofs.Ytfccpnpocfjbcaa.Giv
open Go.RowKit Go.Proofs.YtfccpnpocfjbcaaW.PrintWords Go.Proofs.YtfccpnpocfjbcaaW.PrintLast Go.Proofs.YtfccpnpocfjbcaaW.PrintMore Go.Proofs.Ytfccpnpocfjbcaa.PTk
open Go.Proofs.Ytfccpnpocfjbcaa.Opn Go.BigFrame
set_option linter.unusedVariables false
set_option linter.unusedSimpArgs false
theorem Lx.fz {W : World} {g : Nat} {s : ByteArray} {i : Nat} (h : Lx W g s i) : W.frozen? ⟨g, 1, none⟩ = false := blk_frozen h 1
def byteAt (s : ByteArray) (i : Nat) : UInt8 := UInt8.ofNat (bt s (i : Nat)).toNat
theorem byteAt_val (s : ByteArray) (i : Nat) : ((byteAt s i).toNat : Int) = bt s (i : Nat) := by
  have := bt_range s (i : Nat)
  unfold byteAt
  rw [UInt8.toNat_ofNat']
  omega
theorem isB_keep {T e : TypeId} {B b : Nat} {l : List Value} {w w' : World} (h : Lib.IsBuilder T e B b l w) (hk : ∀ k, B ≤ k → k < w.heap.size → w'.heap[k]? = w.heap[k]?) : Lib.IsBuilder T e B b l w' := by
  have key : ∀ p, Lib.BuilderAt T e B b p l w → Lib.BuilderAt T e B b p l w' := by
    intro p hp
    have hlt := hp.lt
    obtain ⟨hB, v, hbk, hown, hne⟩ := hp
    refine ⟨hB, v, (hk b hB hlt).trans hbk, ⟨hown.1, ?_⟩, hne⟩
    rcases hown.2 with h1 | ⟨g, cap, cur, hv, hg, hc, h4⟩
    · exact Or.inl h1
    · exact Or.inr ⟨g, cap, cur, hv, hg, (hk g hg (Array.getElem?_eq_some_iff.1 hc).1).trans hc, h4⟩
  rcases h with h | h
  · exact Or.inl (key _ h)
  · exact Or.inr (key _ h)
theorem isB_drewN {T e : TypeId} {B b : Nat} {l : List Value} {w : World} (h : Lib.IsBuilder T e B b l w) (n : Nat) : Lib.IsBuilder T e B b l (w.drewN n) := h
theorem isB_drew {T e : TypeId} {B b : Nat} {l : List Value} {w : World} (h : Lib.IsBuilder T e B b l w) : Lib.IsBuilder T e B b l w.drew := h
theorem isB_call {T e : TypeId} {B b : Nat} {l : List Value} {w w' : World} (h : Lib.IsBuilder T e B b l w) (hb : Below w.heap.size w w') : Lib.IsBuilder T e B b l w' := isB_keep h (fun k _ hk => hb.block k hk)
theorem isB_set {T e : TypeId} {B b g o : Nat} {v : Value} {l : List Value} {w : World} (h : Lib.IsBuilder T e B b l w) (hg : g < B) : Lib.IsBuilder T e B b l (w.setCell ⟨g, o, none⟩ v) :=
  isB_keep h (fun k hk _ => Below.heap_setCell w _ v k (show k ≠ g by omega))
theorem Lx.lower {W W' : World} {g B : Nat} {s : ByteArray} {i : Nat} (h : Lx W g s i) (hb : Below B W W') (hg : g < B) : Lx W' g s i := (hb.block g hg).trans h
theorem Lk.lower {g B : Nat} {w w1 w2 : World} (h : Lk g w w1) (k : Below B w1 w2) (hB : w.heap.size ≤ B) : Lk g w w2 :=
  ⟨k.os.trans h.os, k.tape.trans h.tape, k.output.trans h.output, Nat.le_trans h.size k.size, fun i hi hg => (k.block i (by omega)).trans (h.heap i hi hg)⟩
theorem built1 {T e : TypeId} {B b : Nat} {l : List UInt8} {c : UInt8} {v : Int} {w : World} (hv : v = (c.toNat : Int)) (h : Lib.BuilderAt T e B b (.pointer (some ⟨b, 0, none⟩)) (Lib.byteCells l ++ [.int .u8 v]) w) : Lib.IsBuilder T e B b (Lib.byteCells (l ++ [c])) w := Or.inr (by
  subst hv
  unfold Lib.byteCells at *
  rw [List.map_append]
  exact h)
theorem builtS {T e : TypeId} {B b : Nat} {l : List UInt8} {r : ByteArray} {w : World} (h : Lib.BuilderAt T e B b (.pointer (some ⟨b, 0, none⟩)) (Lib.byteCells l ++ Lib.strCells r) w) : Lib.IsBuilder T e B b (Lib.byteCells (l ++ r.data.toList)) w := Or.inr (by
  unfold Lib.byteCells Lib.strCells at *
  rw [List.map_append]
  exact h)
set_option maxHeartbeats 2000000 in
set_option maxRecDepth 100000 in
theorem writeByte_calls (B b : Nat) (bs : List Value) (c : Int) (w : World) (h : Lib.IsBuilder 61 5 B b bs w) (hlen : bs.length + 1 ≤ 140737488355328) (hBw : B ≤ w.heap.size) :
    Calls Try.prog 59 #[.pointer (some ⟨b, 0, none⟩), .int .u8 c] w fun e w' => e = .returned .nilIface ∧ (Lib.BuilderAt 61 5 B b (.pointer (some ⟨b, 0, none⟩)) (bs ++ [.int .u8 c]) w' ∧ Below B w w') := by
  obtain ⟨i0, hi, hz0, hz1, hz2⟩ := info_parts byte_info
  go_enter Try.func59, Try.ntmps59
  go_wp2_with (go_at_call 61; refine (copyCheck_calls B b bs _ h).mono ?_)
  rintro e w1 ⟨rfl, h1, hb1⟩
  have hlt := h1.lt
  obtain ⟨hB, v, hbk, hown, hne⟩ := h1
  have c0 : w1.cell? ⟨b, 0, none⟩ = some (.pointer (some ⟨b, 0, none⟩)) := by rw [Lib.cell_of_heap hbk]; rfl
  have c1 : w1.cell? ⟨b, 1, none⟩ = some v := by rw [Lib.cell_of_heap hbk]; rfl
  go_wp2_with (at_builtin; refine wpList_append_own _ rfl _ _ 27 rfl B 5 i0 (.int .u8 0) 1 1 Try.underlying27 hi hz0 hz1 hz2 rfl (by decide) _ _ _ rfl (hown.alloc _) ⟨w1.heap.size, 0, none⟩ 1 1 [.int .u8 c] rfl rfl ?c1 ?c2 ?c3 ?c4 ?c5 ?_)
  case c1 =>
    intro j u hj
    match j, hj with
    | 0, hj => simp at hj; subst hj; simp [Addr.add]
  case c2 => intro u hu; simp at hu; subst hu; rfl
  case c3 => unfold maxLen; omega
  case c4 => omega
  case c5 => have := hb1.size; simp; omega
  intro v' w2 hown' hgrow _
  have hb2 : w2.heap[b]? = some (.cells #[.pointer (some ⟨b, 0, none⟩), v] 61 (0, 0)) := by
    rw [hgrow.block b (by simp; omega) (fun e => hne e.symm), Lib.alloc_old w1 _ b hlt]
    exact hbk
  have d0 : w2.cell? ⟨b, 0, none⟩ = some (.pointer (some ⟨b, 0, none⟩)) := by rw [Lib.cell_of_heap hb2]; rfl
  have d1 : w2.cell? ⟨b, 1, none⟩ = some v := by rw [Lib.cell_of_heap hb2]; rfl
  have f1 : w2.frozen? ⟨b, 1, none⟩ = false := Lib.frozen_of_heap hb2 1
  obtain ⟨g, cap, rfl⟩ : ∃ g cap, v' = .slice (some ⟨g, 0, none⟩) (bs.length + 1) cap := by
    rcases hown'.2 with ⟨_, h0⟩ | ⟨g, cap, cur, hv, _⟩
    · omega
    · exact ⟨g, cap, hv⟩
  go_wp2
  go_ret
  refine ⟨rfl, ?_, ?_⟩
  · exact Lib.BuilderAt.put (T := 61) (e := 5) hB hb2 (bs' := bs ++ [.int .u8 c]) (by simpa using hown') (by decide)
  · exact ((hb1.alloc (by have := hb1.size; omega) _).grown hgrow (by have := hb1.size; simp; omega) (fun k hk => (hown.lt k hk).1)).setCell (p := ⟨b, 1, none⟩) hB _
end Go.Proofs.Ytfccpnpocfjbcaa.Giv
