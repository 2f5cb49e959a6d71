/- LineTellsCardSaid, part 6 of 8: contracts of the program's functions, the words that they use, and the plain laws on what they compute. Conditions: none beyond what the statements say. -/
import Derived.Test.YtofdhdafabmhmaaGreatDoorKLt0
import Derived.Test.YtofdhdafabmhmaaGreatDoorKLt2
import Derived.Test.YtofdhdafabmhmaaGreatDoorKLt4
import Derived.BigRegion
import Derived.Lib.ConvBytes
import Derived.BigQuiet
import Derived.Deep.QuietTactic
import Derived.Deep.LoopGhost
import Derived.Deep.DeepCutAuto
import Derived.Tactics
import Derived.Tactics2
set_option linter.unusedVariables false
set_option linter.unusedSimpArgs false
section
namespace Go.Proofs.YtofdhdafabmhmaaGreatDoor.PLt
open Go.RowKit Go.Proofs.YtofdhdafabmhmaaGreatDoorW.PrintWords Go.Proofs.YtofdhdafabmhmaaGreatDoorW.PrintLast Go.Proofs.YtofdhdafabmhmaaGreatDoorW.PrintMore
attribute [local go_sem] max2_int min2_int max_two min_two max_three min_three max_four min_four
open Go.Proofs.YtofdhdafabmhmaaGreatDoor.Opn Go.Proofs.YtofdhdafabmhmaaGreatDoor.Giv

/-! ### number_Value: function 111 -/
def number_Value.dig (c : Int) : Int := (c - 48) % 256
def number_Value.at (s : ByteArray) (i j : Nat) : Int := if j < i then number_Value.dig (bt s j) else bt s j
def number_Value.digs (s : ByteArray) : List Int := (List.range s.size).map fun j => number_Value.dig (bt s (j : Nat))
def number_Value.f (k : Nat) (a0 : ByteArray) (a1 : Int) : Option (Int × Int) :=
  (number_isScale.f a1).bind fun b => if b = true then ((number_parts.f a0).bind fun t => if t.2.2.2.2 = 0 ∨ t.2.2.2.2 ≠ (a0.size : Int) ∨ 300 < (a0.size : Int) then some (0, 21) else
    (if t.2.1.size + t.2.2.1.size ≤ 140737488351232 then ((number_text_exponent.f k t.1 t.2.1 t.2.2.1 t.2.2.2.1 t.2.2.2.2).bind fun x => (number_scaled.f k (number_Value.digs (t.2.1 ++ t.2.2.1)) (wrap64 ((t.2.1.size : Int) + x)) a1).bind fun q =>
      if q.2 = true then (if t.1 = true then some (wrap64 (-q.1), 0) else some (q.1, 0)) else some (0, 10)) else none)) else some (0, 2)
theorem number_Value.mono : ∀ a0 a1 k, LeO (number_Value.f k a0 a1) (number_Value.f (k + 1) a0 a1) := by
  intro a0 a1 k
  unfold number_Value.f
  repeat' first
      | (with_reducible exact number_text_exponent.mono _ _ _ _ _ _)
      | (with_reducible exact number_scaled.mono _ _ _ _)
      | (with_reducible exact LeO.refl _)
      | (with_reducible exact LeO.none _)
      | (with_reducible refine LeO.ite ?_ ?_)
      | (with_reducible refine LeO.bind ?_ (fun _ => ?_))

/-- The parts' block, and the digits' block. -/
structure number_Value.Holds (w W : World) (gt gd : Nat) (c : Array Value) (s : ByteArray) (i : Nat) : Prop where
  b : Below w.heap.size w W
  ht : W.heap[gt]? = some (.cells c 134 (0, 0))
  lo : w.heap.size ≤ gt
  lt : gt < gd
  o : ∃ cs lo hi, W.heap[gd]? = some (.cells cs 5 (lo, hi)) ∧ (∀ j, j < s.size → cs[j]? = some (.int .u8 (number_Value.at s i j))) ∧ s.size ≤ lo
theorem number_Value.Holds.cell {w W : World} {gt gd : Nat} {c : Array Value} {s : ByteArray} {i : Nat} (h : number_Value.Holds w W gt gd c s i) {j : Nat} (hj : j < s.size) : W.cell? ⟨gd, j, none⟩ = some (.int .u8 (number_Value.at s i j)) := by
  obtain ⟨cs, lo, hi, h1, h2, h3⟩ := h.o
  rw [cell_of_row _ _ _ _ _ _ h1]
  exact h2 j hj
theorem number_Value.Holds.froz {w W : World} {gt gd : Nat} {c : Array Value} {s : ByteArray} {i : Nat} (h : number_Value.Holds w W gt gd c s i) {j : Nat} (hj : j < s.size) : W.frozen? ⟨gd, j, none⟩ = false := by
  obtain ⟨cs, lo, hi, h1, h2, h3⟩ := h.o
  have : ¬ lo ≤ j := by omega
  simp [World.frozen?, h1, this]
theorem number_Value.Holds.start {w W : World} {gt : Nat} {c : Array Value} (hb : Below w.heap.size w W) (ht : W.heap[gt]? = some (.cells c 134 (0, 0))) (hlo : w.heap.size ≤ gt) (s : ByteArray) : number_Value.Holds w (Lib.bytesWorld W 5 s) gt W.heap.size c s 0 := by
  refine ⟨bytes_below hb hb.size _ s, ?_, hlo, blk_lt ht, _, _, _, Lib.bytesWorld_at_new W _ s, fun j hj => ?_, ?_⟩
  · rw [Lib.bytesWorld_at_old W _ s gt (blk_lt ht)]
    exact ht
  · have h := Lib.bytesWorld_cell W 5 s j hj
    rw [cell_of_row _ _ _ _ _ _ (Lib.bytesWorld_at_new W _ s)] at h
    rw [h]
    have hb : number_Value.at s 0 j = bt s j := by simp [number_Value.at]
    rw [hb, ← bt_at s (j : Int) (by simpa using hj)]
    simp [List.getD_eq_getElem?_getD, hj]
    rfl
  · simp [Lib.bytesCells]
theorem number_Value.Holds.drewN {w W : World} {gt gd : Nat} {c : Array Value} {s : ByteArray} {i : Nat} (h : number_Value.Holds w W gt gd c s i) (n : Nat) : number_Value.Holds w (W.drewN n) gt gd c s i := ⟨number_parts.belowN h.b n, h.ht, h.lo, h.lt, h.o⟩
theorem number_Value.Holds.drew {w W : World} {gt gd : Nat} {c : Array Value} {s : ByteArray} {i : Nat} (h : number_Value.Holds w W gt gd c s i) : number_Value.Holds w W.drew gt gd c s i := ⟨below_drew1 h.b, blk_drew h.ht, h.lo, h.lt, h.o⟩
theorem number_Value.Holds.set {w W : World} {gt gd : Nat} {c : Array Value} {s : ByteArray} {i : Nat} (h : number_Value.Holds w W gt gd c s i) (v : Int) (hv : v = number_Value.dig (bt s (i : Nat))) : number_Value.Holds w (W.setCell ⟨gd, i, none⟩ (.int .u8 v)) gt gd c s (i + 1) := by
  obtain ⟨cs, lo, hi, h1, h2, h3⟩ := h.o
  refine ⟨below_set h.b (Nat.le_trans h.lo (Nat.le_of_lt h.lt)), blk_far h.ht (show gt ≠ gd from Nat.ne_of_lt h.lt) _, h.lo, h.lt, cs.setIfInBounds i (.int .u8 v), lo, hi, ?_, fun j hj => ?_, h3⟩
  · simp [World.setCell, Array.getElem?_modify, h1]
  · unfold number_Value.at
    rcases Nat.lt_trichotomy j i with h4 | rfl | h4
    · rw [Array.getElem?_setIfInBounds_ne (by omega), h2 j hj, if_pos (by omega)]
      unfold number_Value.at
      rw [if_pos h4]
    · have hs : j < cs.size := (Array.getElem?_eq_some_iff.1 (h2 j hj)).1
      rw [Array.getElem?_setIfInBounds_self_of_lt hs, if_pos (by omega), hv]
    · rw [Array.getElem?_setIfInBounds_ne (by omega), h2 j hj, if_neg (by omega)]
      unfold number_Value.at
      rw [if_neg (by omega)]
theorem number_Value.Holds.call {w W W' : World} {gt gd : Nat} {c : Array Value} {s : ByteArray} {i : Nat} (h : number_Value.Holds w W gt gd c s i) (hb : Below W.heap.size W W') : number_Value.Holds w W' gt gd c s i := by
  obtain ⟨cs, lo, hi, h1, h2, h3⟩ := h.o
  exact ⟨below_step h.b hb, blk_below h.ht hb, h.lo, h.lt, cs, lo, hi, blk_below h1 hb, h2, h3⟩
/-- What the digits' block says, wherever it lies as it lay. -/
theorem number_Value.Holds.row {w W : World} {gt gd : Nat} {c : Array Value} {s : ByteArray} (h : number_Value.Holds w W gt gd c s s.size) (hs : s.size ≤ 140737488351232) (cap base : Nat) (hc : s.size ≤ cap) : Kd.V (Kd.int .u8) 5 W base (fun k => k = gd) (.slice (some ⟨gd, 0, none⟩) (number_Value.digs s).length cap) (number_Value.digs s) := by
  have hl : (number_Value.digs s).length = s.size := by simp [number_Value.digs]
  refine Kd.V_mk (by omega) fun W' hW => ⟨rfl, by omega, fun _ => ⟨_, rfl, fun j p hp => ?_⟩⟩
  have hj : j < s.size := by
    have := (List.getElem?_eq_some_iff.1 hp).1
    omega
  have hcell := h.cell hj
  have hlt : gd < W.heap.size := World.block_lt_of_cell? W _ hcell
  have hcell' : W'.cell? ⟨gd, j, none⟩ = some (.int .u8 (number_Value.at s s.size j)) := by
    rw [← hcell]
    simp [World.cell?, hW gd rfl hlt]
  have hp2 : p = number_Value.at s s.size j := by
    unfold number_Value.digs at hp
    rw [List.getElem?_map, List.getElem?_range hj] at hp
    unfold number_Value.at
    rw [if_pos hj]
    exact (Option.some.inj hp).symm
  refine ⟨[.int .u8 p], rfl, rfl, fun i u hu => ?_⟩
  match i, hu with
  | 0, hu =>
    obtain rfl := Option.some.inj hu
    have : (j * (Kd.int .u8).sz + 0) = j := by show j * 1 + 0 = j; omega
    rw [this, add_plain, hcell', hp2]
theorem number_Value.next {i n : Nat} (h1 : i < n) (hs : n ≤ 140737488351232) : wrap64 ((i : Int) + 1) = ((i + 1 : Nat) : Int) := by
  unfold wrap64
  omega
theorem number_Value.less {i n : Nat} (h1 : i < n) (hw : wrap64 ((i : Int) + 1) = ((i + 1 : Nat) : Int)) : n - (intOf (.int .i64 (wrap64 ((i : Int) + 1)))).toNat < n - (intOf (.int .i64 (i : Int))).toNat := by
  rw [hw]
  show n - (((i + 1 : Nat) : Int)).toNat < n - ((i : Int)).toNat
  rw [Int.toNat_natCast, Int.toNat_natCast]
  clear hw
  omega

def number_Value.T12 : Bool × List (List Nat × List Nat) := (true,
  [([], []), ([], []), ([1], [1]), ([2], [2]), ([], []), ([4], [4]), ([3, 5], [3, 5]), ([], []),
    ([0, 6, 7, 5], [0, 6, 7]), ([8], [8]), ([9], [9]), ([9], [9]), ([10, 8, 0, 1, 2, 3, 4, 5, 6, 7, 8, 9, 10], [10]),
    ([11, 12, 0, 1, 2, 3, 4, 5, 6, 7, 8, 9, 10, 11, 12], [11])])
def number_Value.B12 : List Nat := [0, 0, 2, 6, 0, 16, 62, 0, 255, 511, 1023, 1023, 2047, 8191]
theorem number_Value.tab12 : rtab .any (opsOf Tryz.f111 12) = number_Value.T12 := by kernel_rfl
theorem number_Value.bits12 : waitsOk number_Value.T12.2 number_Value.B12 = true := by kernel_rfl

set_option maxHeartbeats 40000000 in
set_option maxRecDepth 100000 in
theorem number_Value.walk (k : Nat) (a0 : ByteArray) (a1 : Int) (t1 : Bool) (t2 t3 t4 : ByteArray) (t5 : Int) (x q1 : Int) (q2 : Bool) (w : World) (hsc : number_isScale.f a1 = some true) (hp : number_parts.f a0 = some (t1, t2, t3, t4, t5))
    (h5 : t5 ≠ 0) (h6 : t5 = (a0.size : Int)) (h7 : (a0.size : Int) ≤ 300) (hz : t2.size + t3.size ≤ 140737488351232) (hx : number_text_exponent.f k t1 t2 t3 t4 t5 = some x)
    (hq : number_scaled.f k (number_Value.digs (t2 ++ t3)) (wrap64 ((t2.size : Int) + x)) a1 = some (q1, q2)) :
    Calls Tryz.prog 111 #[.string a0, .int .i64 a1] w fun e w' => e = .returned (.tuple (if q2 = true then (if t1 = true then #[.int .i64 (wrap64 (-q1)), .int .i64 0] else #[.int .i64 q1, .int .i64 0]) else #[.int .i64 0, .int .i64 10])) ∧ Below w.heap.size w w' := by
  have hu := Tryz.underlying134
  have HSC := Aside0.mk hsc
  have HPT := Aside0.mk hp
  have HX := Aside0.mk hx
  have HQ := Aside0.mk hq
  have HZ := Aside0.mk hz
  obtain ⟨sd, hsd⟩ : ∃ sd, t2 ++ t3 = sd := ⟨_, rfl⟩
  have HSZ : Aside0 (sd.size ≤ 140737488351232) := ⟨by rw [← hsd, ByteArray.size_append]; exact hz⟩
  have HSD := Aside0.mk hsd
  have HB := Aside0.mk (Below.refl w.heap.size w)
  have e1 : (t5 == 0) = false := beq_eq_false_iff_ne.2 h5
  have e2 : (t5 != (a0.size : Int)) = false := by rw [h6]; simp
  have e3 : decide (300 < (a0.size : Int)) = false := decide_eq_false (by omega)
  have e4 : decide ((a0.size : Int) > 300) = false := decide_eq_false (by omega)
  have e5 : (9223372036854775807 < t2.size + t3.size) = False := eq_false (by omega)
  have e6 : (t2.size + t3.size ≤ 9223372036854775807) = True := eq_true (by omega)
  have kb := fun W s => print_bytes (P := Tryz.prog) 9 67 5 Tryz.underlying9 Tryz.underlying67 Tryz.underlying5 s W
  clear hsc hp hx hq hz h5 h6 h7
  go_enter Tryz.func111, Tryz.ntmps111
  go_upto_region 6 with (first
    | (go_at_call 131; refine (number_isScale.calls _ _ _ HSC.out).mono ?_; rintro e w1 ⟨rfl, ⟨n1, rfl⟩⟩)
    | (go_at_call 123; refine (number_parts.calls _ _ _ _ _ _ _ HPT.out).mono ?_; rintro e w2 ⟨rfl, hb⟩; have HB2 := Aside0.mk hb; clear hb)
    | ((with_reducible refine gate_dst (N := 6) rfl ?_); (try (refine gate_guard (by rfl) ?_; dsimp only)); refine box_event ?hg (N := 6) ?hd (cs := #[.bool false, .string (⟨#[]⟩ : ByteArray), .string (⟨#[]⟩ : ByteArray), .string (⟨#[]⟩ : ByteArray), .int .i64 0]) (t := 134) ?hr ?_; (case hd => rfl); (case hg => rfl); (case hr => first | (go_simp; done) | (go_simp; rfl)); intro gt hg w3 hbox hb; have KB := Aside0.mk hb; have KS := Aside0.mk hbox; have KG := Aside0.mk hg; clear hg hbox hb; have hct0 : w3.cell? ⟨gt, 0, none⟩ = some (.bool false) := (blk_cell KS.out 0).trans rfl; have hct1 : w3.cell? ⟨gt, 1, none⟩ = some (.string (⟨#[]⟩ : ByteArray)) := (blk_cell KS.out 1).trans rfl; have hct2 : w3.cell? ⟨gt, 2, none⟩ = some (.string (⟨#[]⟩ : ByteArray)) := (blk_cell KS.out 2).trans rfl; have hct3 : w3.cell? ⟨gt, 3, none⟩ = some (.string (⟨#[]⟩ : ByteArray)) := (blk_cell KS.out 3).trans rfl; have hct4 : w3.cell? ⟨gt, 4, none⟩ = some (.int .i64 0) := (blk_cell KS.out 4).trans rfl; have hf0 := blk_frozen KS.out 0; have hf1 := blk_frozen KS.out 1; have hf2 := blk_frozen KS.out 2; have hf3 := blk_frozen KS.out 3; have hf4 := blk_frozen KS.out 4))
  go_wp2
  go_loopw [39] (fun v39 wr => ∃ (i : Nat), i ≤ sd.size ∧ v39 = .int .i64 i ∧ Aside0 (number_Value.Holds w wr gt w3.heap.size #[.bool t1, .string t2, .string t3, .string t4, .int .i64 t5] sd i)) (fun v39 _ => sd.size - (intOf v39).toNat)
  case atStart =>
    have hb3 : Below w.heap.size w w3 := below_step (below_step (number_parts.belowN (Below.refl _ _) n1) HB2.out) KB.out
    have hlo : w.heap.size ≤ gt := by
      rw [KG.out]
      exact (below_step (number_parts.belowN (Below.refl _ _) n1) HB2.out).size
    have e : ∀ (W : World) (p : Addr) (u : Value), (W.setCell p u).heap.size = W.heap.size := fun W p u => by simp [World.setCell]
    have h := number_Value.Holds.start (c := #[.bool t1, .string t2, .string t3, .string t4, .int .i64 t5]) (gt := gt) (below_set (below_set (below_set (below_set (below_set hb3 hlo) hlo) hlo) hlo) hlo) (blk_put (blk_put (blk_put (blk_put (blk_put KS.out 0 (.bool t1) rfl) 1 (.string t2) rfl) 2 (.string t3) rfl) 3 (.string t4) rfl) 4 (.int .i64 t5) rfl) hlo sd
    rw [e, e, e, e, e] at h
    exact ⟨0, Nat.zero_le _, rfl, ⟨h⟩⟩
  case round =>
    clear kb
    obtain ⟨i, hi, rfl, HH⟩ := hrel
    by_cases hlt : i < sd.size
    · have q0 : (0 ≤ (i : Int)) = True := eq_true (by omega)
      have q1 : ((i : Int) < (sd.size : Int)) = True := eq_true (by omega)
      have q2 : decide ((i : Int) < (sd.size : Int)) = true := decide_eq_true (by omega)
      have q3 : decide (i < sd.size) = true := decide_eq_true hlt
      have q4 : (i < sd.size) = True := eq_true hlt
      have hx : wr.cell? ⟨w3.heap.size, i, none⟩ = some (.int .u8 (bt sd (i : Nat))) := by
        rw [HH.out.cell hlt]
        simp [number_Value.at]
      have hz := HH.out.froz hlt
      have H1 := Aside0.mk hlt
      have HW := Aside0.mk (number_Value.next hlt HSZ.out)
      have hA := add_plain w3.heap.size i
      clear hlt hi
      go_wp2
      go_roundw
      case rel => exact ⟨i + 1, H1.out, by rw [HW.out], ⟨HH.out.set _ rfl⟩⟩
      case measure => exact number_Value.less H1.out HW.out
    · have hie : i = sd.size := by omega
      subst hie
      have z2 : decide ((sd.size : Int) < (sd.size : Int)) = false := decide_eq_false (by omega)
      have z3 : decide (sd.size < sd.size) = false := decide_eq_false (by omega)
      have hT := HH.out.ht
      have hct0 : wr.cell? ⟨gt, 0, none⟩ = some (.bool t1) := (blk_cell hT 0).trans rfl
      have hf0 := blk_frozen hT 0
      have hct1 : wr.cell? ⟨gt, 1, none⟩ = some (.string t2) := (blk_cell hT 1).trans rfl
      have hf1 := blk_frozen hT 1
      have hct2 : wr.cell? ⟨gt, 2, none⟩ = some (.string t3) := (blk_cell hT 2).trans rfl
      have hf2 := blk_frozen hT 2
      have hct3 : wr.cell? ⟨gt, 3, none⟩ = some (.string t4) := (blk_cell hT 3).trans rfl
      have hf3 := blk_frozen hT 3
      have hct4 : wr.cell? ⟨gt, 4, none⟩ = some (.int .i64 t5) := (blk_cell hT 4).trans rfl
      have hf4 := blk_frozen hT 4
      have hdl : (number_Value.digs sd).length = sd.size := by simp [number_Value.digs]
      have KS2 : ∀ (W : World) (cap : Nat), Kd.V (Kd.int .u8) 5 W W.heap.size (fun k_ => k_ = w3.heap.size) (.slice (some ⟨w3.heap.size, 0, none⟩) (number_Value.digs sd).length cap) (number_Value.digs sd) → Calls Tryz.prog 132 #[.slice (some ⟨w3.heap.size, 0, none⟩) sd.size cap, .int .i64 (wrap64 ((t2.size : Int) + x)), .int .i64 a1] W fun e w' => e = .returned (.tuple #[.int .i64 q1, .bool q2]) ∧ Below W.heap.size W w' := fun W cap hv => by
        have h := number_scaled.calls k _ _ cap (number_Value.digs sd) (wrap64 ((t2.size : Int) + x)) a1 q1 q2 W hv (HSD.out ▸ HQ.out)
        rw [hdl] at h
        exact h
      have KS3 := Aside0.mk KS2
      clear hlt KS2
      go_wp2
      have HH4 := Aside0.mk (number_Value.Holds.drew HH.out)
      refine start_ (n := 14) (S := (fun w' => w'.cell? ⟨gt, 0, none⟩ = some (.bool t1) ∧ w'.cell? ⟨gt, 1, none⟩ = some (.string t2) ∧ w'.cell? ⟨gt, 2, none⟩ = some (.string t3) ∧ w'.cell? ⟨gt, 3, none⟩ = some (.string t4) ∧ w'.cell? ⟨gt, 4, none⟩ = some (.int .i64 t5))) (ds := []) #[false, false, false, false, false, false, false, false, false, false, false, false, false, false] (by kernel_rfl) rfl rfl ⟨(blk_cell HH4.out.ht 0).trans rfl, (blk_cell HH4.out.ht 1).trans rfl, (blk_cell HH4.out.ht 2).trans rfl, (blk_cell HH4.out.ht 3).trans rfl, (blk_cell HH4.out.ht 4).trans rfl⟩ (fun hHeld => ?_)
      refine with_tabW number_Value.tab12 number_Value.bits12 (fun HT_ HW_ => ?_)
      generalize wr.drew = w4 at HH4 hHeld ⊢
      refine pus_ 0 (some 50) #[true, false, false, false, false, false, false, false, false, false, false, false, false, false] rfl rfl HT_.out ?_
      refine pus_ 1 (some 51) #[true, true, false, false, false, false, false, false, false, false, false, false, false, false] rfl rfl HT_.out ?_
      refine tas_ 2 (some 52) #[true, true, true, false, false, false, false, false, false, false, false, false, false, false] rfl rfl HT_.out HW_.out hHeld ?_
      refine pus_ 3 (some 53) #[true, true, true, true, false, false, false, false, false, false, false, false, false, false] rfl rfl HT_.out ?_
      refine tas_ 4 (some 54) #[true, true, true, true, true, false, false, false, false, false, false, false, false, false] rfl rfl HT_.out HW_.out hHeld ?_
      refine pus_ 7 (some 57) #[true, true, true, true, true, false, false, true, false, false, false, false, false, false] rfl rfl HT_.out ?_
      refine one_ (i := 5) (N := some 55) #[true, true, true, true, true, true, false, true, false, false, false, false, false, false] rfl rfl (one_of HT_.out (by kernel_rfl)) (by decide) (fun K hK => ?_)
      refine goes_ Tryz.func133 (by kernel_rfl) rfl #[.agg #[.bool t1, .string t2, .string t3, .string t4, .int .i64 t5]] (by rfl) rfl rfl goa_ ?_
      with_reducible refine (number_text_exponent.calls k t1 t2 t3 t4 t5 x _ HX.out).mono ?_
      rintro e w5 ⟨rfl, hb⟩
      refine ⟨_, rfl, ?_⟩
      have HH5 := Aside0.mk (number_Value.Holds.call HH4.out hb)
      clear hb
      refine hK.out _ _ ⟨(blk_cell HH5.out.ht 0).trans rfl, (blk_cell HH5.out.ht 1).trans rfl, (blk_cell HH5.out.ht 2).trans rfl, (blk_cell HH5.out.ht 3).trans rfl, (blk_cell HH5.out.ht 4).trans rfl⟩ (fun hHeld => ?_)
      clear hK K
      refine norm_ (a' := ?_) ?_ ?_
      rotate_left
      ·show Act.put _ (some 55) _ = _
       simp only [Act.put, List.setIfInBounds_toArray, List.set_cons_zero, List.set_cons_succ, i64_w, i32_w]
       rfl
      refine pus_ 6 (some 56) #[true, true, true, true, true, true, true, true, false, false, false, false, false, false] rfl rfl HT_.out ?_
      refine one_ (i := 8) (N := some 58) #[true, true, true, true, true, true, true, true, true, false, false, false, false, false] rfl rfl (one_of HT_.out (by kernel_rfl)) (by decide) (fun K hK => ?_)
      refine goes_ Tryz.func132 (by kernel_rfl) rfl #[.slice (some ⟨w3.heap.size, 0, none⟩) sd.size (grownCap (((((w3.setCell { block := gt, off := 0 } (Value.bool t1)).setCell { block := gt, off := 1 } (Value.string t2)).setCell { block := gt, off := 2 } (Value.string t3)).setCell { block := gt, off := 3 } (Value.string t4)).setCell { block := gt, off := 4 } (Value.int IntKind.i64 t5)) sd.size 0 5), .int .i64 (wrap64 ((t2.size : Int) + x)), .int .i64 a1] (by rfl) rfl rfl goa_ ?_
      with_reducible refine (KS3.out _ _ ?sv).mono ?_
      case sv => exact number_Value.Holds.row HH5.out HSZ.out _ _ (grownCap_ge _ _ _ _)
      rintro e w6 ⟨rfl, hb⟩
      refine ⟨_, rfl, ?_⟩
      have HH6 := Aside0.mk (number_Value.Holds.call HH5.out hb)
      clear hb
      refine hK.out _ _ ⟨(blk_cell HH6.out.ht 0).trans rfl, (blk_cell HH6.out.ht 1).trans rfl, (blk_cell HH6.out.ht 2).trans rfl, (blk_cell HH6.out.ht 3).trans rfl, (blk_cell HH6.out.ht 4).trans rfl⟩ (fun hHeld => ?_)
      clear hK K
      refine norm_ (a' := ?_) ?_ ?_
      rotate_left
      ·show Act.put _ (some 58) _ = _
       simp only [Act.put, List.setIfInBounds_toArray, List.set_cons_zero, List.set_cons_succ, i64_w, i32_w]
       rfl
      refine pus_ 9 (some 49) #[true, true, true, true, true, true, true, true, true, true, false, false, false, false] rfl rfl HT_.out ?_
      refine pus_ 10 (some 59) #[true, true, true, true, true, true, true, true, true, true, true, false, false, false] rfl rfl HT_.out ?_
      refine pus_ 11 (some 60) #[true, true, true, true, true, true, true, true, true, true, true, true, false, false] rfl rfl HT_.out ?_
      refine pus_ 12 (some 9) #[true, true, true, true, true, true, true, true, true, true, true, true, true, false] rfl rfl HT_.out ?_
      refine pus_ 13 (some 10) #[true, true, true, true, true, true, true, true, true, true, true, true, true, true] rfl rfl HT_.out ?_
      refine done_ (done_of HT_.out (by kernel_rfl)) ?_
      clear hct0 hct1 hct2 hct3 hct4 hf0 hf1 hf2 hf3 hf4
      have hT6 := HH6.out.ht
      have hct0 : w6.cell? ⟨gt, 0, none⟩ = some (.bool t1) := (blk_cell hT6 0).trans rfl
      have hf0 := blk_frozen hT6 0
      have HB6 := Aside0.mk HH6.out.b
      cases q2
      · go_wp2
        go_ret2
        exact ⟨rfl, HB6.out⟩
      · cases t1
        · go_wp2
          go_ret2
          exact ⟨rfl, HB6.out⟩
        · go_wp2
          go_ret2
          exact ⟨rfl, HB6.out⟩

set_option maxHeartbeats 4000000 in
set_option maxRecDepth 100000 in
theorem number_Value.nonum (a0 : ByteArray) (a1 : Int) (t1 : Bool) (t2 t3 t4 : ByteArray) (t5 : Int) (w : World) (hsc : number_isScale.f a1 = some true) (hp : number_parts.f a0 = some (t1, t2, t3, t4, t5))
    (hc : t5 = 0 ∨ t5 ≠ (a0.size : Int) ∨ 300 < (a0.size : Int)) :
    Calls Tryz.prog 111 #[.string a0, .int .i64 a1] w fun e w' => e = .returned (.tuple #[.int .i64 0, .int .i64 21]) ∧ Below w.heap.size w w' := by
  have hu := Tryz.underlying134
  have HSC := Aside0.mk hsc
  have HPT := Aside0.mk hp
  obtain ⟨b1, hb1⟩ : ∃ b, (t5 == 0) = b := ⟨_, rfl⟩
  obtain ⟨b2, hb2⟩ : ∃ b, (t5 != (a0.size : Int)) = b := ⟨_, rfl⟩
  obtain ⟨b3, hb3⟩ : ∃ b, decide (300 < (a0.size : Int)) = b := ⟨_, rfl⟩
  have hb4 : decide ((a0.size : Int) > 300) = b3 := hb3
  have HC : (b1 = true) ∨ (b1 = false ∧ b2 = true) ∨ (b1 = false ∧ b2 = false ∧ b3 = true) := by
    cases b1
    · cases b2
      · cases b3
        · exfalso
          simp at hb1 hb2 hb3
          omega
        · exact Or.inr (Or.inr ⟨rfl, rfl, rfl⟩)
      · exact Or.inr (Or.inl ⟨rfl, rfl⟩)
    · exact Or.inl rfl
  clear hsc hp hc
  rcases HC with rfl | ⟨rfl, rfl⟩ | ⟨rfl, rfl, rfl⟩
  all_goals
    go_enter Tryz.func111, Tryz.ntmps111
    go_wp2_with (first
      | (go_at_call 131; refine (number_isScale.calls _ _ _ HSC.out).mono ?_; rintro e w1 ⟨rfl, ⟨n1, rfl⟩⟩)
      | (go_at_call 123; refine (number_parts.calls _ _ _ _ _ _ _ HPT.out).mono ?_; rintro e w2 ⟨rfl, hb⟩; have HB2 := Aside0.mk hb; clear hb)
      | ((with_reducible refine gate_dst (N := 6) rfl ?_); (try (refine gate_guard (by rfl) ?_; dsimp only)); refine box_event ?hg (N := 6) ?hd (cs := #[.bool false, .string (⟨#[]⟩ : ByteArray), .string (⟨#[]⟩ : ByteArray), .string (⟨#[]⟩ : ByteArray), .int .i64 0]) (t := 134) ?hr ?_; (case hd => rfl); (case hg => rfl); (case hr => first | (go_simp; done) | (go_simp; rfl)); intro gt hg w3 hbox hb; have KB := Aside0.mk hb; have KS := Aside0.mk hbox; have KG := Aside0.mk hg; clear hg hbox hb; have hct0 : w3.cell? ⟨gt, 0, none⟩ = some (.bool false) := (blk_cell KS.out 0).trans rfl; have hct1 : w3.cell? ⟨gt, 1, none⟩ = some (.string (⟨#[]⟩ : ByteArray)) := (blk_cell KS.out 1).trans rfl; have hct2 : w3.cell? ⟨gt, 2, none⟩ = some (.string (⟨#[]⟩ : ByteArray)) := (blk_cell KS.out 2).trans rfl; have hct3 : w3.cell? ⟨gt, 3, none⟩ = some (.string (⟨#[]⟩ : ByteArray)) := (blk_cell KS.out 3).trans rfl; have hct4 : w3.cell? ⟨gt, 4, none⟩ = some (.int .i64 0) := (blk_cell KS.out 4).trans rfl; have hf0 := blk_frozen KS.out 0; have hf1 := blk_frozen KS.out 1; have hf2 := blk_frozen KS.out 2; have hf3 := blk_frozen KS.out 3; have hf4 := blk_frozen KS.out 4))
    have hb3 : Below w.heap.size w w3 := below_step (below_step (number_parts.belowN (Below.refl _ _) n1) HB2.out) KB.out
    have hlo : w.heap.size ≤ gt := by
      rw [KG.out]
      exact (below_step (number_parts.belowN (Below.refl _ _) n1) HB2.out).size
    have HB3 := Aside0.mk hb3
    have HL := Aside0.mk hlo
    clear hb3 hlo
    go_ret2
    exact ⟨rfl, below_set (below_set (below_set (below_set (below_set HB3.out HL.out) HL.out) HL.out) HL.out) HL.out⟩

set_option maxHeartbeats 4000000 in
set_option maxRecDepth 100000 in
theorem number_Value.calls (k : Nat) (a0 : ByteArray) (a1 r1 r2 : Int) (w : World) (h : number_Value.f k a0 a1 = some (r1, r2)) :
    Calls Tryz.prog 111 #[.string a0, .int .i64 a1] w fun e w' => e = .returned (.tuple #[.int .i64 r1, .int .i64 r2]) ∧ Below w.heap.size w w' := by
  unfold number_Value.f at h
  obtain ⟨b, hsc, h⟩ := Option.bind_eq_some_iff.mp h
  cases b
  · rw [if_neg (by decide)] at h
    obtain ⟨rfl, rfl⟩ := Prod.mk.inj (Option.some.inj h)
    have HSC := Aside0.mk hsc
    clear hsc h
    have hu := Tryz.underlying134
    go_enter Tryz.func111, Tryz.ntmps111
    go_wp2_with (first | (go_at_call 131; refine (number_isScale.calls _ _ _ HSC.out).mono ?_; rintro e w1 ⟨rfl, ⟨n1, rfl⟩⟩))
    go_ret2
    exact ⟨rfl, by repeat (first | exact Below.refl _ _ | apply number_parts.belowN)⟩
  · rw [if_pos rfl] at h
    obtain ⟨⟨t1, t2, t3, t4, t5⟩, hp, h⟩ := Option.bind_eq_some_iff.mp h
    dsimp only at h
    by_cases hc : t5 = 0 ∨ t5 ≠ (a0.size : Int) ∨ 300 < (a0.size : Int)
    · rw [if_pos hc] at h
      obtain ⟨rfl, rfl⟩ := Prod.mk.inj (Option.some.inj h)
      exact number_Value.nonum a0 a1 t1 t2 t3 t4 t5 w hsc hp hc
    · rw [if_neg hc] at h
      by_cases hz : t2.size + t3.size ≤ 140737488351232
      · rw [if_pos hz] at h
        obtain ⟨x, hx, h⟩ := Option.bind_eq_some_iff.mp h
        obtain ⟨⟨q1, q2⟩, hq, h⟩ := Option.bind_eq_some_iff.mp h
        have h5 : t5 ≠ 0 := fun e => hc (Or.inl e)
        have h6 : t5 = (a0.size : Int) := by
          by_cases e : t5 = (a0.size : Int)
          · exact e
          · exact absurd (Or.inr (Or.inl e)) hc
        have h7 : (a0.size : Int) ≤ 300 := by
          by_cases e : 300 < (a0.size : Int)
          · exact absurd (Or.inr (Or.inr e)) hc
          · omega
        refine (number_Value.walk k a0 a1 t1 t2 t3 t4 t5 x q1 q2 w hsc hp h5 h6 h7 hz hx hq).mono ?_
        rintro e w' ⟨rfl, hb⟩
        refine ⟨?_, hb⟩
        cases q2 <;> cases t1 <;> simp only [if_pos, if_neg, Bool.false_eq_true, if_false, if_true] at h ⊢ <;> (obtain ⟨rfl, rfl⟩ := Prod.mk.inj (Option.some.inj h); rfl)
      · rw [if_neg hz] at h
        cases h

end Go.Proofs.YtofdhdafabmhmaaGreatDoor.PLt
end
section
namespace Go.Proofs.YtofdhdafabmhmaaGreatDoor.PLt
open Go.RowKit Go.Proofs.YtofdhdafabmhmaaGreatDoorW.PrintWords Go.Proofs.YtofdhdafabmhmaaGreatDoorW.PrintLast Go.Proofs.YtofdhdafabmhmaaGreatDoorW.PrintMore
attribute [local go_sem] max2_int min2_int max_two min_two max_three min_three max_four min_four
open Go.Proofs.YtofdhdafabmhmaaGreatDoor.Opn Go.Proofs.YtofdhdafabmhmaaGreatDoor.Giv

/-! ### value_scaled: function 92 -/
def value_scaled.f (k : Nat) (a0 : ByteArray) (a1 : Int) : Option (Int × Int) := (number_Value.f k a0 a1).bind fun bt140 => (if bt140.2 = 0 then (some (bt140.1, bt140.2)) else (if bt140.2 = 10 then (some (bt140.1, bt140.2)) else (some (bt140.1, 50))))
theorem value_scaled.mono : ∀ a0 a1 k, LeO (value_scaled.f k a0 a1) (value_scaled.f (k + 1) a0 a1) := by
 intro a0 a1 k
 unfold value_scaled.f
 repeat' first
   | (with_reducible exact number_Value.mono _ _ _)
   | (with_reducible exact LeO.refl _)
   | (with_reducible exact LeO.none _)
   | (with_reducible refine LeO.ite ?_ ?_)
   | (with_reducible refine LeO.bind ?_ (fun _ => ?_))
set_option maxHeartbeats 8000000 in
set_option maxRecDepth 100000 in
theorem value_scaled.calls (k : Nat) (a0 : ByteArray) (a1 : Int) (r1 : Int) (r2 : Int) (w : World) (h : value_scaled.f k a0 a1 = some (r1, r2)) :
  Calls Tryz.prog 92 #[.string a0, .int .i64 a1] w fun e w' => e = .returned (.tuple #[.int .i64 r1, .int .i64 r2]) ∧ Below w.heap.size w w' := by
 have HB := Aside0.mk (Below.refl w.heap.size w)
 have H : ((number_Value.f k a0 a1).bind fun bt140 => (if bt140.2 = 0 then (some (bt140.1, bt140.2)) else (if bt140.2 = 10 then (some (bt140.1, bt140.2)) else (some (bt140.1, 50))))) = some (r1, r2) := h
 clear h
 replace H := Option.bind_eq_some_iff.mp H
 obtain ⟨⟨t140, t141⟩, A30, H⟩ := H
 try dsimp only at H
 have A3 := Aside0.mk A30
 clear A30
 by_cases c4 : t141 = 0
 ·rw [if_pos c4] at H
  have c4b0 : (t141 == 0) = true := beq_iff_eq.mpr c4
  have c4b1 : (t141 != 0) = false := bne_eq_false_iff_eq.mpr c4
  clear c4
  simp only [Option.some.injEq, Prod.mk.injEq] at H
  obtain ⟨rfl, rfl⟩ := H
  go_enter Tryz.func92, Tryz.ntmps92
  go_wp2_with (first | ((with_reducible refine gate_callee (f := 111) rfl ?_); refine goesL_ (some 11) rfl rfl Tryz.func111 (by kernel_rfl) rfl #[.string a0, .int .i64 a1] rfl goa_ ?_; (with_reducible refine (number_Value.calls k a0 a1 t140 t141 _ A3.out).mono ?_); rintro e w5 ⟨rfl, hb⟩; refine ⟨_, rfl, ?_⟩; have n0_ := Aside0.mk (below_step bel_ hb); clear HB; have HB := n0_; clear n0_; clear hb))
  go_ret2
  exact ⟨rsl_, bel_⟩
 ·rw [if_neg c4] at H
  have c4b0 : (t141 == 0) = false := beq_eq_false_iff_ne.mpr c4
  have c4b1 : (t141 != 0) = true := bne_iff_ne.mpr c4
  by_cases c6 : t141 = 10
  ·rw [if_pos c6] at H
   have c6b0 : (t141 == 10) = true := beq_iff_eq.mpr c6
   have c6b1 : (t141 != 10) = false := bne_eq_false_iff_eq.mpr c6
   clear c6
   simp only [Option.some.injEq, Prod.mk.injEq] at H
   obtain ⟨rfl, rfl⟩ := H
   go_enter Tryz.func92, Tryz.ntmps92
   go_wp2_with (first | ((with_reducible refine gate_callee (f := 111) rfl ?_); refine goesL_ (some 11) rfl rfl Tryz.func111 (by kernel_rfl) rfl #[.string a0, .int .i64 a1] rfl goa_ ?_; (with_reducible refine (number_Value.calls k a0 a1 t140 t141 _ A3.out).mono ?_); rintro e w7 ⟨rfl, hb⟩; refine ⟨_, rfl, ?_⟩; have n0_ := Aside0.mk (below_step bel_ hb); clear HB; have HB := n0_; clear n0_; clear hb))
   go_ret2
   exact ⟨rsl_, bel_⟩
  ·rw [if_neg c6] at H
   have c6b0 : (t141 == 10) = false := beq_eq_false_iff_ne.mpr c6
   have c6b1 : (t141 != 10) = true := bne_iff_ne.mpr c6
   simp only [Option.some.injEq, Prod.mk.injEq] at H
   obtain ⟨rfl, rfl⟩ := H
   go_enter Tryz.func92, Tryz.ntmps92
   go_wp2_with (first | ((with_reducible refine gate_callee (f := 111) rfl ?_); refine goesL_ (some 11) rfl rfl Tryz.func111 (by kernel_rfl) rfl #[.string a0, .int .i64 a1] rfl goa_ ?_; (with_reducible refine (number_Value.calls k a0 a1 t140 t141 _ A3.out).mono ?_); rintro e w8 ⟨rfl, hb⟩; refine ⟨_, rfl, ?_⟩; have n0_ := Aside0.mk (below_step bel_ hb); clear HB; have HB := n0_; clear n0_; clear hb))
   go_ret2
   exact ⟨rsl_, bel_⟩

/-! ### value_Integer: function 66 -/
def value_Integer.j0 : Nat → Int → Bool → Int → Int → ByteArray → ByteArray → Option (Int × Int × Int)
 | 0, _, _, _, _, _, _ => none
 | k + 1, x1, x26, x147000, x147001, x147002, x147003 => if x26 = true then (some (0, x1, 50)) else ((value_scaled.f k x147003 1).bind fun bt150 => (if bt150.2 = 0 then (some (bt150.1, wrap64 (x1 + 1), 0)) else (some (0, x1, bt150.2))))
def value_Integer.f (k : Nat) (l0 : List (S62)) (a1 : Int) : Option (Int × Int × Int) := (value_word.f l0 a1).bind fun bt142 => (if bt142.1 = 3 then ((strings_Contains.f bt142.2.2.2 (⟨#[46]⟩ : ByteArray)).bind fun t147 => (if t147 = true then (value_Integer.j0 k a1 true bt142.1 bt142.2.1 bt142.2.2.1 bt142.2.2.2) else ((ident_Lower.f bt142.2.2.2).bind fun t148 => ((strings_Contains.f t148 (⟨#[101]⟩ : ByteArray)).bind fun t149 => (value_Integer.j0 k a1 t149 bt142.1 bt142.2.1 bt142.2.2.1 bt142.2.2.2))))) else (value_Integer.j0 k a1 true bt142.1 bt142.2.1 bt142.2.2.1 bt142.2.2.2))
theorem value_Integer.mono_l : ∀ k, (∀ y0 y1 y2 y3 y4 y5, LeO (value_Integer.j0 k y0 y1 y2 y3 y4 y5) (value_Integer.j0 (k + 1) y0 y1 y2 y3 y4 y5))
 | 0 => fun _ _ _ _ _ _ r h => by simp [value_Integer.j0] at h
 | k + 1 => by
  have ih0 := value_Integer.mono_l k
  ·intro y0 y1 y2 y3 y4 y5
   unfold value_Integer.j0
   repeat' first
   | (with_reducible exact ih0 _ _ _ _ _ _)
   | (with_reducible exact value_scaled.mono _ _ _)
   | (with_reducible exact LeO.refl _)
   | (with_reducible exact LeO.none _)
   | (with_reducible refine LeO.ite ?_ ?_)
   | (with_reducible refine LeO.bind ?_ (fun _ => ?_))
theorem value_Integer.mono : ∀ a0 a1 k, LeO (value_Integer.f k a0 a1) (value_Integer.f (k + 1) a0 a1) := by
 intro a0 a1 k
 have ih0 := value_Integer.mono_l k
 unfold value_Integer.f
 repeat' first
   | (with_reducible exact ih0 _ _ _ _ _ _)
   | (with_reducible exact value_scaled.mono _ _ _)
   | (with_reducible exact LeO.refl _)
   | (with_reducible exact LeO.none _)
   | (with_reducible refine LeO.ite ?_ ?_)
   | (with_reducible refine LeO.bind ?_ (fun _ => ?_))
set_option maxHeartbeats 8000000 in
set_option maxRecDepth 100000 in
theorem value_Integer.calls (k : Nat) (A0 : Option Addr) (c0 : Nat) (l0 : List (S62)) (a1 : Int) (r1 : Int) (r2 : Int) (r3 : Int) (w : World) (hr0 : Kd.C k62 w A0 l0.length l0) (hc0 : l0.length ≤ c0) (h : value_Integer.f k l0 a1 = some (r1, r2, r3)) :
  Calls Tryz.prog 66 #[.slice A0 l0.length c0, .int .i64 a1] w fun e w' => e = .returned (.tuple #[.int .i64 r1, .int .i64 r2, .int .i64 r3]) ∧ Below w.heap.size w w' := by
 have hu62 := Tryz.underlying62
 have HR0 := Aside0.mk hr0
 have HC0 := Aside0.mk hc0
 clear hr0 hc0
 have HB := Aside0.mk (Below.refl w.heap.size w)
 have H : ((value_word.f l0 a1).bind fun bt142 => (if bt142.1 = 3 then ((strings_Contains.f bt142.2.2.2 (⟨#[46]⟩ : ByteArray)).bind fun t147 => (if t147 = true then (value_Integer.j0 k a1 true bt142.1 bt142.2.1 bt142.2.2.1 bt142.2.2.2) else ((ident_Lower.f bt142.2.2.2).bind fun t148 => ((strings_Contains.f t148 (⟨#[101]⟩ : ByteArray)).bind fun t149 => (value_Integer.j0 k a1 t149 bt142.1 bt142.2.1 bt142.2.2.1 bt142.2.2.2))))) else (value_Integer.j0 k a1 true bt142.1 bt142.2.1 bt142.2.2.1 bt142.2.2.2))) = some (r1, r2, r3) := h
 clear h
 replace H := Option.bind_eq_some_iff.mp H
 obtain ⟨⟨t142, t143, t144, t145⟩, A30, H⟩ := H
 try dsimp only at H
 have A3 := Aside0.mk A30
 clear A30
 have HC4 := Aside0.mk H
 clear H
 go_enter Tryz.func66, Tryz.ntmps66
 go_upto_region 2 with (first | ((with_reducible refine gate_callee (f := 80) rfl ?_); refine goesL_ (some 12) rfl rfl Tryz.func80 (by kernel_rfl) rfl #[.slice A0 l0.length c0, .int .i64 a1] rfl goa_ ?_; (with_reducible refine (value_word.calls _ _ l0 a1 t142 t143 t144 t145 _ ?side1 ?side2 A3.out).mono ?_); (case side1 => repeat (first | exact HR0.out | (with_reducible refine Kd.C_alloc ?_ _) | (with_reducible refine Kd.C_drewN ?_ _) | (with_reducible refine Kd.C_drew ?_))); (case side2 => exact HC0.out); rintro e w5 ⟨rfl, hb⟩; refine ⟨_, rfl, ?_⟩; have n0_ := Aside0.mk (below_step bel_ hb); clear HB; have HB := n0_; clear n0_; clear hb) | ((with_reducible refine gate_dst (N := 7) rfl ?_); refine box_event ?hg (N := 7) ?hd (cs := #[.int .i64 0, .int .i64 0, .string (⟨#[]⟩ : ByteArray), .string (⟨#[]⟩ : ByteArray)]) (t := 62) ?hr ?_; (case hd => rfl); (case hg => rfl); (case hr => first | (go_simp; done) | (go_simp; rfl)); intro gb146 hg w6 hbox hb; have n0_ := Aside0.mk (below_step bel_ hb); have n1_ := Aside0.mk (hbox); have n2_ := Aside0.mk ((bsz_ hg : w.heap.size ≤ gb146)); have n3_ := Aside0.mk ((bsz_ hg : w.heap.size ≤ gb146)); clear HB; have HB := n0_; have BK146 := n1_; have GW146 := n2_; have GE146 := n3_; clear n0_ n1_ n2_ n3_; clear hb hbox hg; have hcz7_0 : w6.cell? ⟨gb146, 0, none⟩ = some (.int .i64 0) := (blk_cell BK146.out 0).trans rfl; have hcz7_1 : w6.cell? ⟨gb146, 1, none⟩ = some (.int .i64 0) := (blk_cell BK146.out 1).trans rfl; have hcz7_2 : w6.cell? ⟨gb146, 2, none⟩ = some (.string (⟨#[]⟩ : ByteArray)) := (blk_cell BK146.out 2).trans rfl; have hcz7_3 : w6.cell? ⟨gb146, 3, none⟩ = some (.string (⟨#[]⟩ : ByteArray)) := (blk_cell BK146.out 3).trans rfl; have hfz7_0 := blk_frozen BK146.out 0; have hfz7_1 := blk_frozen BK146.out 1; have hfz7_2 := blk_frozen BK146.out 2; have hfz7_3 := blk_frozen BK146.out 3))
 (try simp only [Act.put, List.setIfInBounds_toArray, List.set_cons_zero, List.set_cons_succ])
 go_cut [26] (fun v26 wc => ∃ (kq : Nat) (x26_3 : Bool), v26 = .bool x26_3 ∧ Aside0 (value_Integer.j0 kq a1 x26_3 t142 t143 t144 t145 = some (r1, r2, r3)) ∧ Aside0 (kq ≤ k) ∧ Aside0 (wc.heap[gb146]? = some (.cells #[.int .i64 t142, .int .i64 t143, .string t144, .string t145] 62 (0, 0))) ∧ Aside0 (Below w.heap.size w wc))
 case first =>
  have H := HC4.out
  clear HC4
  by_cases c8 : t142 = 3
  ·rw [if_pos c8] at H
   have c8b0 : (t142 == 3) = true := beq_iff_eq.mpr c8
   have c8b1 : (t142 != 3) = false := bne_eq_false_iff_eq.mpr c8
   clear c8
   (first | rw [c8b0] | (simp only [i64_w, i32_w]; rw [c8b0]) | skip)
   replace H := Option.bind_eq_some_iff.mp H
   obtain ⟨t147, A90, H⟩ := H
   try dsimp only at H
   have A9 := Aside0.mk A90
   clear A90
   by_cases c10 : t147 = true
   ·subst c10
    rw [if_pos rfl] at H
    have H' := Aside0.mk H
    clear H
    have hcz11_0 : w6.cell? ⟨gb146, 0, none⟩ = some (.int .i64 0) := (blk_cell BK146.out 0).trans rfl
    have hcz11_1 : w6.cell? ⟨gb146, 1, none⟩ = some (.int .i64 0) := (blk_cell BK146.out 1).trans rfl
    have hcz11_2 : w6.cell? ⟨gb146, 2, none⟩ = some (.string (⟨#[]⟩ : ByteArray)) := (blk_cell BK146.out 2).trans rfl
    have hcz11_3 : w6.cell? ⟨gb146, 3, none⟩ = some (.string (⟨#[]⟩ : ByteArray)) := (blk_cell BK146.out 3).trans rfl
    have hfz11_0 := blk_frozen BK146.out 0
    have hfz11_1 := blk_frozen BK146.out 1
    have hfz11_2 := blk_frozen BK146.out 2
    have hfz11_3 := blk_frozen BK146.out 3
    go_wp2_with (first | (go_at_call 91; (with_reducible refine (strings_Contains.calls t145 (⟨#[46]⟩ : ByteArray) true _ A9.out).mono ?_); rintro e w' ⟨rfl, ⟨nd, rfl⟩⟩))
    go_meet
    case rel => exact ⟨_, (true), rfs_, (by first | exact H' | (subst_vars; exact H')), ⟨ole_⟩, ⟨by (with_reducible repeat (first | refine blk_drewN ?_ _ | refine blk_drew ?_ | refine blk_alloc ?_ _)); refine blk_put (cs := #[.int .i64 t142, .int .i64 t143, .string t144, .string (⟨#[]⟩ : ByteArray)]) ?_ 3 _ rfl; (with_reducible repeat (first | refine blk_drewN ?_ _ | refine blk_drew ?_ | refine blk_alloc ?_ _)); refine blk_put (cs := #[.int .i64 t142, .int .i64 t143, .string (⟨#[]⟩ : ByteArray), .string (⟨#[]⟩ : ByteArray)]) ?_ 2 _ rfl; (with_reducible repeat (first | refine blk_drewN ?_ _ | refine blk_drew ?_ | refine blk_alloc ?_ _)); refine blk_put (cs := #[.int .i64 t142, .int .i64 0, .string (⟨#[]⟩ : ByteArray), .string (⟨#[]⟩ : ByteArray)]) ?_ 1 _ rfl; (with_reducible repeat (first | refine blk_drewN ?_ _ | refine blk_drew ?_ | refine blk_alloc ?_ _)); refine blk_put (cs := #[.int .i64 0, .int .i64 0, .string (⟨#[]⟩ : ByteArray), .string (⟨#[]⟩ : ByteArray)]) ?_ 0 _ rfl; (with_reducible repeat (first | refine blk_drewN ?_ _ | refine blk_drew ?_ | refine blk_alloc ?_ _)); exact BK146.out⟩, ⟨bel_⟩⟩
   ·replace c10 := Bool.eq_false_iff.mpr c10
    subst c10
    rw [if_neg (show ¬ (false = true) by decide)] at H
    replace H := Option.bind_eq_some_iff.mp H
    obtain ⟨t148, A120, H⟩ := H
    try dsimp only at H
    have A12 := Aside0.mk A120
    clear A120
    replace H := Option.bind_eq_some_iff.mp H
    obtain ⟨t149, A130, H⟩ := H
    try dsimp only at H
    have A13 := Aside0.mk A130
    clear A130
    have H' := Aside0.mk H
    clear H
    have hcz14_0 : w6.cell? ⟨gb146, 0, none⟩ = some (.int .i64 0) := (blk_cell BK146.out 0).trans rfl
    have hcz14_1 : w6.cell? ⟨gb146, 1, none⟩ = some (.int .i64 0) := (blk_cell BK146.out 1).trans rfl
    have hcz14_2 : w6.cell? ⟨gb146, 2, none⟩ = some (.string (⟨#[]⟩ : ByteArray)) := (blk_cell BK146.out 2).trans rfl
    have hcz14_3 : w6.cell? ⟨gb146, 3, none⟩ = some (.string (⟨#[]⟩ : ByteArray)) := (blk_cell BK146.out 3).trans rfl
    have hfz14_0 := blk_frozen BK146.out 0
    have hfz14_1 := blk_frozen BK146.out 1
    have hfz14_2 := blk_frozen BK146.out 2
    have hfz14_3 := blk_frozen BK146.out 3
    go_wp2_with (first | (go_at_call 91; (with_reducible refine (strings_Contains.calls t145 (⟨#[46]⟩ : ByteArray) false _ A9.out).mono ?_); rintro e w' ⟨rfl, ⟨nd, rfl⟩⟩) | (go_at_call 69; (with_reducible refine (ident_Lower.calls t145 t148 _ A12.out).mono ?_); rintro e w15 ⟨rfl, hb⟩; have n0_ := Aside0.mk (blk_below (g := gb146) (o := .cells #[.int .i64 t142, .int .i64 t143, .string t144, .string t145] 62 (0, 0)) (by (with_reducible repeat (first | refine blk_drewN ?_ _ | refine blk_drew ?_ | refine blk_alloc ?_ _)); refine blk_put (cs := #[.int .i64 t142, .int .i64 t143, .string t144, .string (⟨#[]⟩ : ByteArray)]) ?_ 3 _ rfl; (with_reducible repeat (first | refine blk_drewN ?_ _ | refine blk_drew ?_ | refine blk_alloc ?_ _)); refine blk_put (cs := #[.int .i64 t142, .int .i64 t143, .string (⟨#[]⟩ : ByteArray), .string (⟨#[]⟩ : ByteArray)]) ?_ 2 _ rfl; (with_reducible repeat (first | refine blk_drewN ?_ _ | refine blk_drew ?_ | refine blk_alloc ?_ _)); refine blk_put (cs := #[.int .i64 t142, .int .i64 0, .string (⟨#[]⟩ : ByteArray), .string (⟨#[]⟩ : ByteArray)]) ?_ 1 _ rfl; (with_reducible repeat (first | refine blk_drewN ?_ _ | refine blk_drew ?_ | refine blk_alloc ?_ _)); refine blk_put (cs := #[.int .i64 0, .int .i64 0, .string (⟨#[]⟩ : ByteArray), .string (⟨#[]⟩ : ByteArray)]) ?_ 0 _ rfl; (with_reducible repeat (first | refine blk_drewN ?_ _ | refine blk_drew ?_ | refine blk_alloc ?_ _)); exact BK146.out) hb); have n1_ := Aside0.mk (below_step bel_ hb); clear BK146; clear HB; have BK146 := n0_; have HB := n1_; clear n0_ n1_; clear hb) | (go_at_call 91; (with_reducible refine (strings_Contains.calls t148 (⟨#[101]⟩ : ByteArray) t149 _ A13.out).mono ?_); rintro e w' ⟨rfl, ⟨nd, rfl⟩⟩))
    go_meet
    case rel => exact ⟨_, (t149), rfs_, (by first | exact H' | (subst_vars; exact H')), ⟨ole_⟩, ⟨blk_⟩, ⟨bel_⟩⟩
  ·rw [if_neg c8] at H
   have c8b0 : (t142 == 3) = false := beq_eq_false_iff_ne.mpr c8
   have c8b1 : (t142 != 3) = true := bne_iff_ne.mpr c8
   (first | rw [c8b0] | (simp only [i64_w, i32_w]; rw [c8b0]) | skip)
   have H' := Aside0.mk H
   clear H
   have hcz16_0 : w6.cell? ⟨gb146, 0, none⟩ = some (.int .i64 0) := (blk_cell BK146.out 0).trans rfl
   have hcz16_1 : w6.cell? ⟨gb146, 1, none⟩ = some (.int .i64 0) := (blk_cell BK146.out 1).trans rfl
   have hcz16_2 : w6.cell? ⟨gb146, 2, none⟩ = some (.string (⟨#[]⟩ : ByteArray)) := (blk_cell BK146.out 2).trans rfl
   have hcz16_3 : w6.cell? ⟨gb146, 3, none⟩ = some (.string (⟨#[]⟩ : ByteArray)) := (blk_cell BK146.out 3).trans rfl
   have hfz16_0 := blk_frozen BK146.out 0
   have hfz16_1 := blk_frozen BK146.out 1
   have hfz16_2 := blk_frozen BK146.out 2
   have hfz16_3 := blk_frozen BK146.out 3
   go_wp2
   go_meet
   case rel => exact ⟨_, (true), rfs_, (by first | exact H' | (subst_vars; exact H')), ⟨ole_⟩, ⟨by (with_reducible repeat (first | refine blk_drewN ?_ _ | refine blk_drew ?_ | refine blk_alloc ?_ _)); refine blk_put (cs := #[.int .i64 t142, .int .i64 t143, .string t144, .string (⟨#[]⟩ : ByteArray)]) ?_ 3 _ rfl; (with_reducible repeat (first | refine blk_drewN ?_ _ | refine blk_drew ?_ | refine blk_alloc ?_ _)); refine blk_put (cs := #[.int .i64 t142, .int .i64 t143, .string (⟨#[]⟩ : ByteArray), .string (⟨#[]⟩ : ByteArray)]) ?_ 2 _ rfl; (with_reducible repeat (first | refine blk_drewN ?_ _ | refine blk_drew ?_ | refine blk_alloc ?_ _)); refine blk_put (cs := #[.int .i64 t142, .int .i64 0, .string (⟨#[]⟩ : ByteArray), .string (⟨#[]⟩ : ByteArray)]) ?_ 1 _ rfl; (with_reducible repeat (first | refine blk_drewN ?_ _ | refine blk_drew ?_ | refine blk_alloc ?_ _)); refine blk_put (cs := #[.int .i64 0, .int .i64 0, .string (⟨#[]⟩ : ByteArray), .string (⟨#[]⟩ : ByteArray)]) ?_ 0 _ rfl; (with_reducible repeat (first | refine blk_drewN ?_ _ | refine blk_drew ?_ | refine blk_alloc ?_ _)); exact BK146.out⟩, ⟨bel_⟩⟩
 case rest =>
  clear HC4
  try clear c1
  try clear p2
  try clear c6
  try clear c8
  try clear c8b0
  try clear c8b1
  try clear c10
  try clear hcz11_0
  try clear hcz11_1
  try clear hcz11_2
  try clear hcz11_3
  try clear hcz14_0
  try clear hcz14_1
  try clear hcz14_2
  try clear hcz14_3
  try clear hcz16_0
  try clear hcz16_1
  try clear hcz16_2
  try clear hcz16_3
  try clear hcz7_0
  try clear hcz7_1
  try clear hcz7_2
  try clear hcz7_3
  try clear hfz11_0
  try clear hfz11_1
  try clear hfz11_2
  try clear hfz11_3
  try clear hfz14_0
  try clear hfz14_1
  try clear hfz14_2
  try clear hfz14_3
  try clear hfz16_0
  try clear hfz16_1
  try clear hfz16_2
  try clear hfz16_3
  try clear hfz7_0
  try clear hfz7_1
  try clear hfz7_2
  try clear hfz7_3
  obtain ⟨kq, x26_3, rfl, HA, HJ3, BK146, HB⟩ := hcut
  cases kq with
  | zero => exact absurd HA.out (by simp [value_Integer.j0])
  | succ kj3 =>
   have H := HA.out
   clear HA
   simp only [value_Integer.j0] at H
   by_cases c17 : x26_3 = true
   ·subst c17
    rw [if_pos rfl] at H
    simp only [Option.some.injEq, Prod.mk.injEq] at H
    obtain ⟨rfl, rfl, rfl⟩ := H
    go_wp2
    go_ret3
    exact ⟨rsl_, bel_⟩
   ·replace c17 := Bool.eq_false_iff.mpr c17
    subst c17
    rw [if_neg (show ¬ (false = true) by decide)] at H
    replace H := Option.bind_eq_some_iff.mp H
    obtain ⟨⟨t150, t151⟩, A180, H⟩ := H
    try dsimp only at H
    have A18 := Aside0.mk A180
    clear A180
    by_cases c19 : t151 = 0
    ·rw [if_pos c19] at H
     have c19b0 : (t151 == 0) = true := beq_iff_eq.mpr c19
     have c19b1 : (t151 != 0) = false := bne_eq_false_iff_eq.mpr c19
     clear c19
     simp only [Option.some.injEq, Prod.mk.injEq] at H
     obtain ⟨rfl, rfl, rfl⟩ := H
     have hcz20_0 : wc.cell? ⟨gb146, 0, none⟩ = some (.int .i64 t142) := (blk_cell BK146.out 0).trans rfl
     have hcz20_1 : wc.cell? ⟨gb146, 1, none⟩ = some (.int .i64 t143) := (blk_cell BK146.out 1).trans rfl
     have hcz20_2 : wc.cell? ⟨gb146, 2, none⟩ = some (.string t144) := (blk_cell BK146.out 2).trans rfl
     have hcz20_3 : wc.cell? ⟨gb146, 3, none⟩ = some (.string t145) := (blk_cell BK146.out 3).trans rfl
     have hfz20_0 := blk_frozen BK146.out 0
     have hfz20_1 := blk_frozen BK146.out 1
     have hfz20_2 := blk_frozen BK146.out 2
     have hfz20_3 := blk_frozen BK146.out 3
     go_wp2_with (first | ((with_reducible refine gate_callee (f := 92) rfl ?_); refine goesL_ (some 31) rfl rfl Tryz.func92 (by kernel_rfl) rfl #[.string t145, .int .i64 1] rfl goa_ ?_; (with_reducible refine (value_scaled.calls kj3 t145 1 t150 t151 _ A18.out).mono ?_); rintro e w21 ⟨rfl, hb⟩; refine ⟨_, rfl, ?_⟩; have n0_ := blb_ BK146 hb; have n1_ := Aside0.mk (below_step bel_ hb); clear BK146; clear HB; have BK146 := n0_; have HB := n1_; clear n0_ n1_; clear hb))
     go_ret3
     exact ⟨rsl_, bel_⟩
    ·rw [if_neg c19] at H
     have c19b0 : (t151 == 0) = false := beq_eq_false_iff_ne.mpr c19
     have c19b1 : (t151 != 0) = true := bne_iff_ne.mpr c19
     simp only [Option.some.injEq, Prod.mk.injEq] at H
     obtain ⟨rfl, rfl, rfl⟩ := H
     have hcz22_0 : wc.cell? ⟨gb146, 0, none⟩ = some (.int .i64 t142) := (blk_cell BK146.out 0).trans rfl
     have hcz22_1 : wc.cell? ⟨gb146, 1, none⟩ = some (.int .i64 t143) := (blk_cell BK146.out 1).trans rfl
     have hcz22_2 : wc.cell? ⟨gb146, 2, none⟩ = some (.string t144) := (blk_cell BK146.out 2).trans rfl
     have hcz22_3 : wc.cell? ⟨gb146, 3, none⟩ = some (.string t145) := (blk_cell BK146.out 3).trans rfl
     have hfz22_0 := blk_frozen BK146.out 0
     have hfz22_1 := blk_frozen BK146.out 1
     have hfz22_2 := blk_frozen BK146.out 2
     have hfz22_3 := blk_frozen BK146.out 3
     go_wp2_with (first | ((with_reducible refine gate_callee (f := 92) rfl ?_); refine goesL_ (some 31) rfl rfl Tryz.func92 (by kernel_rfl) rfl #[.string t145, .int .i64 1] rfl goa_ ?_; (with_reducible refine (value_scaled.calls kj3 t145 1 t150 t151 _ A18.out).mono ?_); rintro e w23 ⟨rfl, hb⟩; refine ⟨_, rfl, ?_⟩; have n0_ := blb_ BK146 hb; have n1_ := Aside0.mk (below_step bel_ hb); clear BK146; clear HB; have BK146 := n0_; have HB := n1_; clear n0_ n1_; clear hb))
     go_ret3
     exact ⟨rsl_, bel_⟩

end Go.Proofs.YtofdhdafabmhmaaGreatDoor.PLt
end
section
namespace Go.Proofs.YtofdhdafabmhmaaGreatDoor.Giv
open Go.RowKit Go.Proofs.YtofdhdafabmhmaaGreatDoorW.PrintWords Go.Proofs.YtofdhdafabmhmaaGreatDoorW.PrintLast Go.Proofs.YtofdhdafabmhmaaGreatDoorW.PrintMore Go.Proofs.YtofdhdafabmhmaaGreatDoor.PLt
open Go.Proofs.YtofdhdafabmhmaaGreatDoor.Opn Go.BigFrame
def line_Read.text (l : List S62) (k : Int) : ByteArray := if 0 ≤ k ∧ k < (l.length : Int) then (if (rd_T62 l k).f0 = 1 then (rd_T62 l k).f2 else ⟨#[]⟩) else ⟨#[]⟩
def line_Read.num (n : Nat) (l : List S62) (k : Int) : Option Bool := (value_Integer.f n l k).bind fun r => some (decide (r.2.2 = 0) || decide (r.2.2 = 10))
def line_Read.isNum (n : Nat) (l : List S62) (nu k : Int) : Option Bool := if nu < 0 then line_Read.num n l k else some false
def line_Read.isName (nm t : ByteArray) : Option Bool := if nm.toList = [] then ident_Custom.f t else some false
/-- The words of a line: where its number and its span stand, where it ends, its name. -/
def line_Read.l0 : Nat → List S62 → Int → Int → Int → Int → ByteArray → Option (Int × Int × Int × ByteArray)
  | 0, _, _, _, _, _, _ => none
  | n + 1, l, at_, nu, sp, k, nm => (line_Read.isNum n l nu k).bind fun b => if b = true then line_Read.l0 n l at_ k sp (wrap64 (k + 1)) nm else
      (ident_Is.f (line_Read.text l k) ⟨#[115, 112, 97, 110]⟩).bind fun s => if s = true then (if sp < 0 then (if k > at_ then some (nu, k, wrap64 (k + 1), nm) else line_Read.l0 n l at_ nu k (wrap64 (k + 1)) nm) else
        ((line_Read.isName nm (line_Read.text l k)).bind fun c => if c = true then line_Read.l0 n l at_ nu sp (wrap64 (k + 1)) (line_Read.text l k) else some (nu, sp, k, nm)))
      else ((line_Read.isName nm (line_Read.text l k)).bind fun c => if c = true then line_Read.l0 n l at_ nu sp (wrap64 (k + 1)) (line_Read.text l k) else some (nu, sp, k, nm))
def line_Read.fin (n : Nat) (l : List S62) (at_ nu sp k : Int) (nm : ByteArray) : Option (Int × Int × ByteArray × Int × Int) :=
  if k = at_ then some (0, 0, nm, at_, 50) else if sp ≥ 0 ∧ nu < 0 ∧ nm.toList = [] then some (0, 0, nm, k, 50) else
  if nu < 0 then some (if sp ≥ 0 then 4 else 3, if sp ≥ 0 then 1 else 0, nm, k, 0) else
  (value_Integer.f n l nu).bind fun r => if r.2.2 ≠ 0 ∨ r.1 > 10000 ∨ r.1 < -10000 then some (0, 0, ⟨#[]⟩, nu, 52) else
    if r.1 = 0 ∨ (r.1 < 0 ∧ sp ≥ 0) then some (0, 0, ⟨#[]⟩, nu, 50) else some (if sp < 0 then 2 else 4, r.1, nm, k, 0)
def line_Read.keys : List ByteArray := [⟨#[97, 117, 116, 111]⟩, ⟨#[105, 110, 104, 101, 114, 105, 116]⟩, ⟨#[105, 110, 105, 116, 105, 97, 108]⟩, ⟨#[117, 110, 115, 101, 116]⟩, ⟨#[114, 101, 118, 101, 114, 116]⟩]
def line_Read.f (k : Nat) (l0 : List S62) (a1 : Int) : Option (Int × Int × ByteArray × Int × Int) :=
  (value_Keyword.f k l0 a1 line_Read.keys).bind fun r => if r.1 = 0 then (line_auto.f).bind fun t => some (t.1, t.2.1, t.2.2, r.2, 0) else if r.1 > 0 then some (0, 0, ⟨#[]⟩, a1, 51) else
    (line_Read.l0 k l0 a1 (-1) (-1) a1 ⟨#[]⟩).bind fun s => line_Read.fin k l0 a1 s.1 s.2.1 s.2.2.1 s.2.2.2
theorem line_Read.num_mono (l : List S62) (i : Int) (n : Nat) : LeO (line_Read.num n l i) (line_Read.num (n + 1) l i) := LeO.bind (value_Integer.mono _ _ _) (fun _ => LeO.refl _)
theorem line_Read.isNum_mono (l : List S62) (nu i : Int) (n : Nat) : LeO (line_Read.isNum n l nu i) (line_Read.isNum (n + 1) l nu i) := LeO.ite (line_Read.num_mono _ _ _) (LeO.refl _)
theorem line_Read.mono_l : ∀ k, (∀ l a nu sp i nm, LeO (line_Read.l0 k l a nu sp i nm) (line_Read.l0 (k + 1) l a nu sp i nm))
  | 0 => fun _ _ _ _ _ _ r h => by simp [line_Read.l0] at h
  | k + 1 => by
    have ih0 := line_Read.mono_l k
    intro l a nu sp i nm
    unfold line_Read.l0
    refine LeO.bind (line_Read.isNum_mono _ _ _ _) (fun b => LeO.ite (ih0 _ _ _ _ _ _) (LeO.bind (LeO.refl _) (fun s => LeO.ite (LeO.ite (LeO.ite (LeO.refl _) (ih0 _ _ _ _ _ _)) (LeO.bind (LeO.refl _) (fun c => LeO.ite (ih0 _ _ _ _ _ _) (LeO.refl _)))) (LeO.bind (LeO.refl _) (fun c => LeO.ite (ih0 _ _ _ _ _ _) (LeO.refl _))))))
theorem line_Read.mono : ∀ l0 a1 k, LeO (line_Read.f k l0 a1) (line_Read.f (k + 1) l0 a1) := by
  intro l0 a1 k
  unfold line_Read.f line_Read.fin
  refine LeO.bind (value_Keyword.mono _ _ _ _) (fun r => LeO.ite (LeO.refl _) (LeO.ite (LeO.refl _) (LeO.bind (line_Read.mono_l _ _ _ _ _ _ _) (fun s => LeO.ite (LeO.refl _) (LeO.ite (LeO.refl _) (LeO.ite (LeO.refl _) (LeO.bind (value_Integer.mono _ _ _) (fun _ => LeO.refl _))))))))
theorem line_Read.l0_step {n : Nat} {l : List S62} {a nu sp k : Int} {nm : ByteArray} {R : Int × Int × Int × ByteArray} (hf : line_Read.l0 (n + 1) l a nu sp k nm = some R) :
    (decide (nu < 0) = true ∧ Aside0 (line_Read.num n l k = some true) ∧ Aside0 (line_Read.l0 n l a k sp (wrap64 (k + 1)) nm = some R)) ∨
    (((decide (nu < 0) = true ∧ Aside0 (line_Read.num n l k = some false)) ∨ decide (nu < 0) = false) ∧
      ((Aside0 (ident_Is.f (line_Read.text l k) ⟨#[115, 112, 97, 110]⟩ = some true) ∧ decide (sp < 0) = true ∧ decide (a < k) = true ∧ (nu, k, wrap64 (k + 1), nm) = R) ∨
       (Aside0 (ident_Is.f (line_Read.text l k) ⟨#[115, 112, 97, 110]⟩ = some true) ∧ decide (sp < 0) = true ∧ decide (a < k) = false ∧ Aside0 (line_Read.l0 n l a nu k (wrap64 (k + 1)) nm = some R)) ∨
       (((Aside0 (ident_Is.f (line_Read.text l k) ⟨#[115, 112, 97, 110]⟩ = some true) ∧ decide (sp < 0) = false) ∨ Aside0 (ident_Is.f (line_Read.text l k) ⟨#[115, 112, 97, 110]⟩ = some false)) ∧
        (((nm.toList == ([] : List UInt8)) = true ∧ Aside0 (ident_Custom.f (line_Read.text l k) = some true) ∧ Aside0 (line_Read.l0 n l a nu sp (wrap64 (k + 1)) (line_Read.text l k) = some R)) ∨
         ((nm.toList == ([] : List UInt8)) = true ∧ Aside0 (ident_Custom.f (line_Read.text l k) = some false) ∧ (nu, sp, k, nm) = R) ∨
         ((nm.toList == ([] : List UInt8)) = false ∧ (nu, sp, k, nm) = R))))) := by
  rw [line_Read.l0] at hf
  obtain ⟨b, hb, hf⟩ := Option.bind_eq_some_iff.1 hf
  have P : (b = true ∧ decide (nu < 0) = true ∧ Aside0 (line_Read.num n l k = some true)) ∨ (b = false ∧ ((decide (nu < 0) = true ∧ Aside0 (line_Read.num n l k = some false)) ∨ decide (nu < 0) = false)) := by
    unfold line_Read.isNum at hb
    by_cases h : nu < 0
    · rw [if_pos h] at hb
      cases b
      · exact Or.inr ⟨rfl, Or.inl ⟨decide_eq_true h, ⟨hb⟩⟩⟩
      · exact Or.inl ⟨rfl, decide_eq_true h, ⟨hb⟩⟩
    · rw [if_neg h] at hb
      exact Or.inr ⟨(Option.some.inj hb).symm, Or.inr (decide_eq_false h)⟩
  rcases P with ⟨rfl, P1, P2⟩ | ⟨rfl, P⟩
  · rw [if_pos rfl] at hf
    exact Or.inl ⟨P1, P2, ⟨hf⟩⟩
  · rw [if_neg (by decide)] at hf
    refine Or.inr ⟨P, ?_⟩
    obtain ⟨s, hs, hf⟩ := Option.bind_eq_some_iff.1 hf
    have N : ∀ {q : Prop}, ((line_Read.isName nm (line_Read.text l k)).bind fun c => if c = true then line_Read.l0 n l a nu sp (wrap64 (k + 1)) (line_Read.text l k) else some (nu, sp, k, nm)) = some R →
        (((nm.toList == ([] : List UInt8)) = true ∧ Aside0 (ident_Custom.f (line_Read.text l k) = some true) ∧ Aside0 (line_Read.l0 n l a nu sp (wrap64 (k + 1)) (line_Read.text l k) = some R)) ∨
         ((nm.toList == ([] : List UInt8)) = true ∧ Aside0 (ident_Custom.f (line_Read.text l k) = some false) ∧ (nu, sp, k, nm) = R) ∨ ((nm.toList == ([] : List UInt8)) = false ∧ (nu, sp, k, nm) = R)) := fun {_} h => by
      obtain ⟨c, hc, h⟩ := Option.bind_eq_some_iff.1 h
      unfold line_Read.isName at hc
      by_cases e : nm.toList = []
      · rw [if_pos e] at hc
        cases c
        · exact Or.inr (Or.inl ⟨beq_iff_eq.mpr e, ⟨hc⟩, Option.some.inj h⟩)
        · exact Or.inl ⟨beq_iff_eq.mpr e, ⟨hc⟩, ⟨h⟩⟩
      · rw [if_neg e] at hc
        rw [← Option.some.inj hc] at h
        exact Or.inr (Or.inr ⟨beq_eq_false_iff_ne.mpr e, Option.some.inj h⟩)
    cases s
    · exact Or.inr (Or.inr ⟨Or.inr ⟨hs⟩, N (q := True) hf⟩)
    · rw [if_pos rfl] at hf
      by_cases h : sp < 0
      · rw [if_pos h] at hf
        by_cases h2 : k > a
        · rw [if_pos h2] at hf
          exact Or.inl ⟨⟨hs⟩, decide_eq_true h, decide_eq_true h2, Option.some.inj hf⟩
        · rw [if_neg h2] at hf
          exact Or.inr (Or.inl ⟨⟨hs⟩, decide_eq_true h, decide_eq_false h2, ⟨hf⟩⟩)
      · rw [if_neg h] at hf
        exact Or.inr (Or.inr ⟨Or.inl ⟨⟨hs⟩, decide_eq_false h⟩, N (q := True) hf⟩)
/-- The blocks of Read: its words, its line, its place. -/
structure line_Read.St (w w1 : World) (bl bv bk : Nat) (A : Option Addr) (c n : Nat) (kd m : Int) (nm : ByteArray) (k : Int) : Prop where
  l : w1.heap[bl]? = some (.cells #[.slice A n c] 41 (0, 0))
  v : w1.heap[bv]? = some (.cells #[.int .i64 kd, .int .i64 m, .string nm] 32 (0, 0))
  k : w1.heap[bk]? = some (.cells #[.int .i64 k] 3 (0, 0))
  b : Below w.heap.size w w1
  o0 : w.heap.size ≤ bl
  o1 : bl < bv
  o2 : bv < bk
namespace line_Read
section
variable {w w1 w2 : World} {bl bv bk : Nat} {A : Option Addr} {c n : Nat} {kd m : Int} {nm : ByteArray} {k : Int}
theorem St.below (h : St w w1 bl bv bk A c n kd m nm k) (hb : Below w1.heap.size w1 w2) : St w w2 bl bv bk A c n kd m nm k := ⟨blk_below h.l hb, blk_below h.v hb, blk_below h.k hb, below_step h.b hb, h.o0, h.o1, h.o2⟩
theorem St.drewN (h : St w w1 bl bv bk A c n kd m nm k) (i : Nat) : St w (w1.drewN i) bl bv bk A c n kd m nm k := h.below (pw_below_drewN (Below.refl _ _) i)
theorem St.drew (h : St w w1 bl bv bk A c n kd m nm k) : St w w1.drew bl bv bk A c n kd m nm k := h.below (below_drew (Below.refl _ _))
theorem St.setk (h : St w w1 bl bv bk A c n kd m nm k) (k' : Int) : St w (w1.setCell ⟨bk, 0, none⟩ (.int .i64 k')) bl bv bk A c n kd m nm k' :=
  ⟨blk_far h.l (by exact (by have := h.o1; have := h.o2; omega : bl ≠ bk)) _, blk_far h.v (by exact (by have := h.o2; omega : bv ≠ bk)) _, blk_put h.k 0 _ rfl, below_set h.b (by have := h.o0; have := h.o1; have := h.o2; omega), h.o0, h.o1, h.o2⟩
theorem St.setv0 (h : St w w1 bl bv bk A c n kd m nm k) (x : Int) : St w (w1.setCell ⟨bv, 0, none⟩ (.int .i64 x)) bl bv bk A c n x m nm k :=
  ⟨blk_far h.l (by exact (by have := h.o1; omega : bl ≠ bv)) _, blk_put h.v 0 _ rfl, blk_far h.k (by exact (by have := h.o2; omega : bk ≠ bv)) _, below_set h.b (by have := h.o0; have := h.o1; omega), h.o0, h.o1, h.o2⟩
theorem St.setv1 (h : St w w1 bl bv bk A c n kd m nm k) (x : Int) : St w (w1.setCell ⟨bv, 1, none⟩ (.int .i64 x)) bl bv bk A c n kd x nm k :=
  ⟨blk_far h.l (by exact (by have := h.o1; omega : bl ≠ bv)) _, blk_put h.v 1 _ rfl, blk_far h.k (by exact (by have := h.o2; omega : bk ≠ bv)) _, below_set h.b (by have := h.o0; have := h.o1; omega), h.o0, h.o1, h.o2⟩
theorem St.setv2 (h : St w w1 bl bv bk A c n kd m nm k) (x : ByteArray) : St w (w1.setCell ⟨bv, 2, none⟩ (.string x)) bl bv bk A c n kd m x k :=
  ⟨blk_far h.l (by exact (by have := h.o1; omega : bl ≠ bv)) _, blk_put h.v 2 _ rfl, blk_far h.k (by exact (by have := h.o2; omega : bk ≠ bv)) _, below_set h.b (by have := h.o0; have := h.o1; omega), h.o0, h.o1, h.o2⟩
theorem St.cl (h : St w w1 bl bv bk A c n kd m nm k) : w1.cell? ⟨bl, 0, none⟩ = some (.slice A n c) := (blk_cell h.l 0).trans rfl
theorem St.c0 (h : St w w1 bl bv bk A c n kd m nm k) : w1.cell? ⟨bv, 0, none⟩ = some (.int .i64 kd) := (blk_cell h.v 0).trans rfl
theorem St.c1 (h : St w w1 bl bv bk A c n kd m nm k) : w1.cell? ⟨bv, 1, none⟩ = some (.int .i64 m) := (blk_cell h.v 1).trans rfl
theorem St.c2 (h : St w w1 bl bv bk A c n kd m nm k) : w1.cell? ⟨bv, 2, none⟩ = some (.string nm) := (blk_cell h.v 2).trans rfl
theorem St.ck (h : St w w1 bl bv bk A c n kd m nm k) : w1.cell? ⟨bk, 0, none⟩ = some (.int .i64 k) := (blk_cell h.k 0).trans rfl
theorem St.f (h : St w w1 bl bv bk A c n kd m nm k) : w1.frozen? ⟨bv, 0, none⟩ = false ∧ w1.frozen? ⟨bv, 1, none⟩ = false ∧ w1.frozen? ⟨bv, 2, none⟩ = false ∧ w1.frozen? ⟨bk, 0, none⟩ = false := ⟨blk_frozen h.v 0, blk_frozen h.v 1, blk_frozen h.v 2, blk_frozen h.k 0⟩
theorem St.ne (h : St w w1 bl bv bk A c n kd m nm k) : bv ≠ bk ∧ bk ≠ bv ∧ bl ≠ bv ∧ bl ≠ bk ∧ bv ≠ bl ∧ bk ≠ bl := by have := h.o1; have := h.o2; omega
theorem St.C (h : St w w1 bl bv bk A c n kd m nm k) {α : Type} {d : Kd α} {l : List α} (hr : Kd.C d w A n l) : Kd.C d w1 A n l := Kd.C_below hr h.b
end
set_option maxHeartbeats 4000000 in
set_option maxRecDepth 100000 in
theorem text_calls (bk bl : Nat) (A : Option Addr) (c : Nat) (l : List S62) (k : Int) (w : World) (hk : w.cell? ⟨bk, 0, none⟩ = some (.int .i64 k)) (hl : w.cell? ⟨bl, 0, none⟩ = some (.slice A l.length c)) (hr : Kd.C k62 w A l.length l) (hc : l.length ≤ c) :
    Calls Tryz.prog 64 #[.pointer (some ⟨bk, 0, none⟩), .pointer (some ⟨bl, 0, none⟩)] w fun e w' => e = .returned (.string (line_Read.text l k)) ∧ Drawn0 w w' := by
  have hu := Tryz.underlying62
  have hR := Aside0.mk hr
  unfold line_Read.text
  by_cases h : 0 ≤ k ∧ k < (l.length : Int)
  · rw [if_pos h]
    obtain ⟨ad, rfl, h0, h1, h2, h3⟩ := at_T62 hr k h.1 h.2
    have p0 := eq_true h.1
    have p1 := eq_true h.2
    have q0 : decide (0 ≤ k) = true := decide_eq_true h.1
    have q1 : decide (k < (l.length : Int)) = true := decide_eq_true h.2
    by_cases h4 : (rd_T62 l k).f0 = 1
    · rw [if_pos h4]
      have q4 : ((rd_T62 l k).f0 == 1) = true := by rw [h4]; rfl
      clear h h4 hr hc
      go_enter Tryz.func64, Tryz.ntmps64
      go_wp2
      go_ret
      exact ⟨rfl, drs_⟩
    · rw [if_neg h4]
      have q4 : ((rd_T62 l k).f0 == 1) = false := beq_eq_false_iff_ne.2 h4
      clear h h4 hr hc
      go_enter Tryz.func64, Tryz.ntmps64
      go_wp2
      go_ret
      exact ⟨rfl, drs_⟩
  · rw [if_neg h]
    by_cases h0 : 0 ≤ k
    · have q0 : decide (0 ≤ k) = true := decide_eq_true h0
      have q1 : decide (k < (l.length : Int)) = false := decide_eq_false (by omega)
      clear h h0 hr hc
      go_enter Tryz.func64, Tryz.ntmps64
      go_wp2
      go_ret
      exact ⟨rfl, drs_⟩
    · have q0 : decide (0 ≤ k) = false := decide_eq_false h0
      clear h h0 hr hc
      go_enter Tryz.func64, Tryz.ntmps64
      go_wp2
      go_ret
      exact ⟨rfl, drs_⟩
set_option maxHeartbeats 4000000 in
set_option maxRecDepth 100000 in
theorem num_calls (n : Nat) (bl bk : Nat) (A : Option Addr) (c : Nat) (l : List S62) (k : Int) (r : Bool) (w : World) (hl : w.cell? ⟨bl, 0, none⟩ = some (.slice A l.length c)) (hk : w.cell? ⟨bk, 0, none⟩ = some (.int .i64 k)) (hr : Kd.C k62 w A l.length l) (hc : l.length ≤ c) (h : line_Read.num n l k = some r) :
    Calls Tryz.prog 65 #[.pointer (some ⟨bl, 0, none⟩), .pointer (some ⟨bk, 0, none⟩)] w fun e w' => e = .returned (.bool r) ∧ Below w.heap.size w w' := by
  have HR := Aside0.mk hr
  have HC := Aside0.mk hc
  have HB := Aside0.mk (Below.refl w.heap.size w)
  unfold line_Read.num at h
  obtain ⟨⟨r1, r2, r3⟩, hI, h⟩ := Option.bind_eq_some_iff.1 h
  have A1 := Aside0.mk hI
  obtain rfl := Option.some.inj h
  clear hI h hr hc
  dsimp only
  by_cases e0 : r3 = 0
  · have q0 : (r3 == 0) = true := by rw [e0]; rfl
    have q1 : decide (r3 = 0) = true := decide_eq_true e0
    rw [q1]
    clear e0
    go_enter Tryz.func65, Tryz.ntmps65
    go_wp2_with (first | ((with_reducible refine gate_callee (f := 66) rfl ?_); refine goesL_ (some 9) rfl rfl Tryz.func66 (by kernel_rfl) rfl #[.slice A l.length c, .int .i64 k] rfl goa_ ?_; (with_reducible refine (value_Integer.calls n _ _ l k r1 r2 r3 _ ?side1 ?side2 A1.out).mono ?_); (case side1 => repeat (first | exact (Kd.C_below HR.out HB.out) | (with_reducible refine Kd.C_alloc ?_ _) | (with_reducible refine Kd.C_drewN ?_ _) | (with_reducible refine Kd.C_drew ?_))); (case side2 => exact HC.out); rintro e w12 ⟨rfl, hb⟩; refine ⟨_, rfl, ?_⟩; have n0_ := Aside0.mk (below_step bel_ hb); clear hb HB; have HB := n0_; clear n0_))
    go_ret
    exact ⟨rfl, bel_⟩
  · have q0 : (r3 == 0) = false := beq_eq_false_iff_ne.2 e0
    have q1 : decide (r3 = 0) = false := decide_eq_false e0
    rw [q1]
    clear e0
    have q2 : decide (r3 = 10) = (r3 == 10) := by rw [Bool.eq_iff_iff]; simp
    rw [q2]
    clear q2
    go_enter Tryz.func65, Tryz.ntmps65
    go_wp2_with (first | ((with_reducible refine gate_callee (f := 66) rfl ?_); refine goesL_ (some 9) rfl rfl Tryz.func66 (by kernel_rfl) rfl #[.slice A l.length c, .int .i64 k] rfl goa_ ?_; (with_reducible refine (value_Integer.calls n _ _ l k r1 r2 r3 _ ?side1 ?side2 A1.out).mono ?_); (case side1 => repeat (first | exact (Kd.C_below HR.out HB.out) | (with_reducible refine Kd.C_alloc ?_ _) | (with_reducible refine Kd.C_drewN ?_ _) | (with_reducible refine Kd.C_drew ?_))); (case side2 => exact HC.out); rintro e w12 ⟨rfl, hb⟩; refine ⟨_, rfl, ?_⟩; have n0_ := Aside0.mk (below_step bel_ hb); clear hb HB; have HB := n0_; clear n0_))
    go_ret
    exact ⟨rfl, bel_⟩
/-- A block that is there lies ahead of a new one. -/
theorem blt_ {w0 W : World} {g g' : Nat} {o : Obj} (b : Aside0 (w0.heap[g]? = some o)) (hg : g' = W.heap.size) (h : W.heap[g]? = some o := by (with_reducible repeat (first | refine blk_drewN ?_ _ | refine blk_drew ?_ | refine blk_alloc ?_ _)); first | (with_reducible exact Aside0.out (by assumption)) | exact Aside0.out (by assumption)) : g < g' := by
  rw [hg]
  exact blk_lt h
structure Sa (w w1 : World) (bl bv : Nat) (A : Option Addr) (c n : Nat) (kd m : Int) (nm : ByteArray) : Prop where
  l : w1.heap[bl]? = some (.cells #[.slice A n c] 41 (0, 0))
  v : w1.heap[bv]? = some (.cells #[.int .i64 kd, .int .i64 m, .string nm] 32 (0, 0))
  b : Below w.heap.size w w1
  o0 : w.heap.size ≤ bl
  o1 : bl < bv
section
variable {w w1 w2 : World} {bl bv bk : Nat} {A : Option Addr} {c n : Nat} {kd m : Int} {nm : ByteArray} {k : Int}
theorem Sa.below (h : Sa w w1 bl bv A c n kd m nm) (hb : Below w1.heap.size w1 w2) : Sa w w2 bl bv A c n kd m nm := ⟨blk_below h.l hb, blk_below h.v hb, below_step h.b hb, h.o0, h.o1⟩
theorem Sa.drewN (h : Sa w w1 bl bv A c n kd m nm) (i : Nat) : Sa w (w1.drewN i) bl bv A c n kd m nm := h.below (pw_below_drewN (Below.refl _ _) i)
theorem Sa.drew (h : Sa w w1 bl bv A c n kd m nm) : Sa w w1.drew bl bv A c n kd m nm := h.below (below_drew (Below.refl _ _))
theorem Sa.setv0 (h : Sa w w1 bl bv A c n kd m nm) (x : Int) : Sa w (w1.setCell ⟨bv, 0, none⟩ (.int .i64 x)) bl bv A c n x m nm :=
  ⟨blk_far h.l (by exact (by have := h.o1; omega : bl ≠ bv)) _, blk_put h.v 0 _ rfl, below_set h.b (by have := h.o0; have := h.o1; omega), h.o0, h.o1⟩
theorem Sa.setv1 (h : Sa w w1 bl bv A c n kd m nm) (x : Int) : Sa w (w1.setCell ⟨bv, 1, none⟩ (.int .i64 x)) bl bv A c n kd x nm :=
  ⟨blk_far h.l (by exact (by have := h.o1; omega : bl ≠ bv)) _, blk_put h.v 1 _ rfl, below_set h.b (by have := h.o0; have := h.o1; omega), h.o0, h.o1⟩
theorem Sa.setv2 (h : Sa w w1 bl bv A c n kd m nm) (x : ByteArray) : Sa w (w1.setCell ⟨bv, 2, none⟩ (.string x)) bl bv A c n kd m x :=
  ⟨blk_far h.l (by exact (by have := h.o1; omega : bl ≠ bv)) _, blk_put h.v 2 _ rfl, below_set h.b (by have := h.o0; have := h.o1; omega), h.o0, h.o1⟩
theorem Sa.cl (h : Sa w w1 bl bv A c n kd m nm) : w1.cell? ⟨bl, 0, none⟩ = some (.slice A n c) := (blk_cell h.l 0).trans rfl
theorem Sa.c0 (h : Sa w w1 bl bv A c n kd m nm) : w1.cell? ⟨bv, 0, none⟩ = some (.int .i64 kd) := (blk_cell h.v 0).trans rfl
theorem Sa.c1 (h : Sa w w1 bl bv A c n kd m nm) : w1.cell? ⟨bv, 1, none⟩ = some (.int .i64 m) := (blk_cell h.v 1).trans rfl
theorem Sa.c2 (h : Sa w w1 bl bv A c n kd m nm) : w1.cell? ⟨bv, 2, none⟩ = some (.string nm) := (blk_cell h.v 2).trans rfl
theorem Sa.f (h : Sa w w1 bl bv A c n kd m nm) : w1.frozen? ⟨bv, 0, none⟩ = false ∧ w1.frozen? ⟨bv, 1, none⟩ = false ∧ w1.frozen? ⟨bv, 2, none⟩ = false := ⟨blk_frozen h.v 0, blk_frozen h.v 1, blk_frozen h.v 2⟩
theorem Sa.ne (h : Sa w w1 bl bv A c n kd m nm) : bl ≠ bv ∧ bv ≠ bl := by have := h.o1; omega
theorem Sa.C (h : Sa w w1 bl bv A c n kd m nm) {α : Type} {d : Kd α} {l : List α} (hr : Kd.C d w A n l) : Kd.C d w1 A n l := Kd.C_below hr h.b
theorem Sa.st (h : Sa w w1 bl bv A c n kd m nm) {T : TypeId} (hT : T = 3) (hg : bk = w1.heap.size) (hx : w2.heap[bk]? = some (.cells #[.int .i64 k] T (0, 0))) (hb : Below w1.heap.size w1 w2) : St w w2 bl bv bk A c n kd m nm k := by
  subst hT
  exact ⟨blk_below h.l hb, blk_below h.v hb, hx, below_step h.b hb, h.o0, h.o1, by rw [hg]; exact blk_lt h.v⟩
end
theorem san_ {P : Prop} (h : P := by repeat (first | (with_reducible first | exact HX.out | apply Sa.drewN | apply Sa.drew | apply Sa.setv0 | apply Sa.setv1 | apply Sa.setv2))) : P := h
theorem stn_ {P : Prop} (h : P := by repeat (first | (with_reducible first | exact HX.out | apply St.drewN | apply St.drew | apply St.setk | apply St.setv0 | apply St.setv1 | apply St.setv2))) : P := h
theorem at_ {P : Program} {id : Nat} {ops : Array Oper} {b : Bool} {Q : Exit → Act → World → Prop} {a : Act} {W : World} (h : ∀ w', w' = W → (Code.region id ops b).wp P Q a w') : (Code.region id ops b).wp P Q a W := h W rfl
def Read.T22 : Bool × List (List Nat × List Nat) := (true, [([], []), ([], []), ([0, 0], [0]), ([1, 2, 0, 1, 2], [1]), ([3, 0, 1, 2, 3], [])])
def Read.B22 : List Nat := [0, 0, 1, 7, 15]
theorem Read.tab22 : rtab .any (opsOf Tryz.f34 22) = Read.T22 := by kernel_rfl
theorem Read.bits22 : waitsOk Read.T22.2 Read.B22 = true := by kernel_rfl
def Read.T27 : Bool × List (List Nat × List Nat) := (true, [([], []), ([], []), ([0, 0], [0]), ([1, 2, 0, 1, 2], [1]), ([3, 0, 1, 2, 3], [])])
def Read.B27 : List Nat := [0, 0, 1, 7, 15]
theorem Read.tab27 : rtab .any (opsOf Tryz.f34 27) = Read.T27 := by kernel_rfl
theorem Read.bits27 : waitsOk Read.T27.2 Read.B27 = true := by kernel_rfl
def Read.T36 : Bool × List (List Nat × List Nat) := (true, [([], []), ([], []), ([0, 0], [0]), ([1, 2, 0, 1, 2], [1]), ([3, 0, 1, 2, 3], [])])
def Read.B36 : List Nat := [0, 0, 1, 7, 15]
theorem Read.tab36 : rtab .any (opsOf Tryz.f34 36) = Read.T36 := by kernel_rfl
theorem Read.bits36 : waitsOk Read.T36.2 Read.B36 = true := by kernel_rfl
set_option maxHeartbeats 16000000 in
set_option maxRecDepth 100000 in
theorem calls (k : Nat) (A0 : Option Addr) (c0 : Nat) (l0 : List S62) (a1 r1 r2 : Int) (r3 : ByteArray) (r4 r5 : Int) (w : World) (hr0 : Kd.C k62 w A0 l0.length l0) (hc0 : l0.length ≤ c0) (h : line_Read.f k l0 a1 = some (r1, r2, r3, r4, r5)) :
    Calls Tryz.prog 34 #[.slice A0 l0.length c0, .int .i64 a1] w fun e w' => e = .returned (.tuple #[.agg #[.int .i64 r1, .int .i64 r2, .string r3], .int .i64 r4, .int .i64 r5]) ∧ Below w.heap.size w w' := by
  have hu := Tryz.underlying62
  have hu2 := Tryz.underlying32
  have HR := Aside0.mk hr0
  have HC := Aside0.mk hc0
  have HB := Aside0.mk (Below.refl w.heap.size w)
  unfold line_Read.f at h
  obtain ⟨ys, hys⟩ : ∃ ys, line_Read.keys = ys := ⟨_, rfl⟩
  rw [hys] at h
  have NY := Aside0.mk hys
  replace h := Option.bind_eq_some_iff.mp h
  obtain ⟨⟨t1, t2⟩, hk, h⟩ := h
  have A1 := Aside0.mk hk
  clear hys hk hr0 hc0
  dsimp only at h
  by_cases e0 : t1 = 0
  · rw [if_pos e0] at h
    replace h := Option.bind_eq_some_iff.mp h
    obtain ⟨⟨u1, u2, u3⟩, hau, h⟩ := h
    have A2 := Aside0.mk hau
    simp only [Option.some.injEq, Prod.mk.injEq] at h
    obtain ⟨rfl, rfl, rfl, rfl, rfl⟩ := h
    have q0 : (t1 == 0) = true := by rw [e0]; rfl
    clear e0 hau
    go_enter Tryz.func34, Tryz.ntmps34
    go_wp2_with (first | go_step3 | ((with_reducible refine gate_dst (N := 2) rfl ?_); refine box_event ?hg (N := 2) ?hd (cs := #[.slice A0 l0.length c0]) (t := 41) ?hr ?_; (case hd => rfl); (case hg => rfl); (case hr => first | (go_simp; done) | (go_simp; rfl)); intro bl hg w2 hbox hb; have n0_ := Aside0.mk (below_step bel_ hb); have BL := Aside0.mk hbox; have OL := Aside0.mk ((bsz_ hg : w.heap.size ≤ bl)); clear HB; have HB := n0_; clear n0_ hb hbox hg) | ((with_reducible refine gate_dst (N := 4) rfl ?_); refine box_event ?hg (N := 4) ?hd (cs := #[.int .i64 0, .int .i64 0, .string (⟨#[]⟩ : ByteArray)]) (t := 32) ?hr ?_; (case hd => rfl); (case hg => rfl); (case hr => first | (go_simp; done) | (go_simp; rfl)); intro bv hg w3 hbox hb; have HX : Aside0 (Sa w w3 bl bv A0 c0 l0.length 0 0 ⟨#[]⟩) := ⟨⟨(blb_ BL hb).out, hbox, below_step bel_ hb, OL.out, blt_ BL hg⟩⟩; clear HB BL OL hb hbox hg; have hcl := HX.out.cl; have hc0 := HX.out.c0; have hc1 := HX.out.c1; have hc2 := HX.out.c2; obtain ⟨hz0, hz1, hz2⟩ := HX.out.f; obtain ⟨hn0, hn1⟩ := HX.out.ne) | ((with_reducible refine gate_dst (N := 21) rfl ?_); refine Kd.R_lit Kd.string _ 9 ?hg (N := 21) ?hd (xs := line_Read.keys) (inner := [.string (⟨#[97, 117, 116, 111]⟩ : ByteArray), .string (⟨#[105, 110, 104, 101, 114, 105, 116]⟩ : ByteArray), .string (⟨#[105, 110, 105, 116, 105, 97, 108]⟩ : ByteArray), .string (⟨#[117, 110, 115, 101, 116]⟩ : ByteArray), .string (⟨#[114, 101, 118, 101, 114, 116]⟩ : ByteArray)]) (ok := fun _ => True) (okp := fun _ => True) ?hr ?hp (fun _ hk => hk) trivial (Below.refl _ _) (Nat.le_refl _) (by unfold line_Read.keys; simp) ?_; (case hd => rfl); (case hg => rfl); (case hr => first | (go_simp; done) | (go_simp; rfl)); (case hp => exact (Reps.one (show Kd.M Kd.string _ _ _ (⟨#[97, 117, 116, 111]⟩ : ByteArray) [.string (⟨#[97, 117, 116, 111]⟩ : ByteArray)] from rfl) (Reps.one (show Kd.M Kd.string _ _ _ (⟨#[105, 110, 104, 101, 114, 105, 116]⟩ : ByteArray) [.string (⟨#[105, 110, 104, 101, 114, 105, 116]⟩ : ByteArray)] from rfl) (Reps.one (show Kd.M Kd.string _ _ _ (⟨#[105, 110, 105, 116, 105, 97, 108]⟩ : ByteArray) [.string (⟨#[105, 110, 105, 116, 105, 97, 108]⟩ : ByteArray)] from rfl) (Reps.one (show Kd.M Kd.string _ _ _ (⟨#[117, 110, 115, 101, 116]⟩ : ByteArray) [.string (⟨#[117, 110, 115, 101, 116]⟩ : ByteArray)] from rfl) (Reps.one (show Kd.M Kd.string _ _ _ (⟨#[114, 101, 118, 101, 114, 116]⟩ : ByteArray) [.string (⟨#[114, 101, 118, 101, 114, 116]⟩ : ByteArray)] from rfl) (Reps.none _ _))))))); intro v9 w9 ho10 hb hg_ hnew_; clear hg_ hnew_; rw [NY.out] at ho10; have HO := Aside0.mk ho10; have n0_ := Aside0.mk (Sa.below (san_ : Sa w _ bl bv A0 c0 l0.length _ _ _) hb); clear HX; have HX := n0_; clear n0_ hb ho10; obtain ⟨Ao, co, eo⟩ := Kd.R_slice HO.out; subst eo) | ((with_reducible refine gate_callee (f := 46) rfl ?_); refine goesL_ (some 22) rfl rfl Tryz.func46 (by kernel_rfl) rfl #[.slice A0 l0.length c0, .int .i64 a1, .slice Ao ys.length co] rfl goa_ ?_; (with_reducible refine (value_Keyword.calls k _ _ l0 a1 _ _ ys t1 t2 _ ?side1 ?side2 ?side3 ?side4 A1.out).mono ?_); (case side1 => exact Sa.C (san_ : Sa w _ bl bv A0 c0 l0.length _ _ _) HR.out); (case side2 => exact HC.out); (case side3 => repeat (first | exact (Kd.R_reads' HO.out).2.2 | (with_reducible refine Kd.C_alloc ?_ _) | (with_reducible refine Kd.C_drewN ?_ _) | (with_reducible refine Kd.C_drew ?_))); (case side4 => exact (Kd.R_reads' HO.out).2.1); rintro e w12 ⟨rfl, hb⟩; refine ⟨_, rfl, ?_⟩; have n0_ := Aside0.mk (Sa.below (san_ : Sa w _ bl bv A0 c0 l0.length _ _ _) hb); clear HX HO; have HX := n0_; clear n0_ hb; have hcl := HX.out.cl; have hc0 := HX.out.c0; have hc1 := HX.out.c1; have hc2 := HX.out.c2; obtain ⟨hz0, hz1, hz2⟩ := HX.out.f; obtain ⟨hn0, hn1⟩ := HX.out.ne) | (go_at_call 38; with_reducible refine (line_auto.calls u1 u2 u3 _ A2.out).mono ?_; rintro e w13 ⟨rfl, hb⟩; have n0_ := Aside0.mk (Sa.below (san_ : Sa w _ bl bv A0 c0 l0.length _ _ _) hb); clear HX; have HX := n0_; clear n0_ hb; have hcl := HX.out.cl; have hc0 := HX.out.c0; have hc1 := HX.out.c1; have hc2 := HX.out.c2; obtain ⟨hz0, hz1, hz2⟩ := HX.out.f; obtain ⟨hn0, hn1⟩ := HX.out.ne))
    (try (rw [Exit.noGoto_ret]; try dsimp only [Exit.inBlock, Exit.then]))
    refine bodyPost_ret (results_ctt rfl _ _ bv 32 #[.int .i64 u1, .int .i64 u2, .string u3] (0, 0) _ rfl ((san_ : Sa w _ bl bv A0 c0 l0.length u1 u2 u3)).v Tryz.underlying32 rfl (by kernel_rfl)) rfl ?_
    exact ⟨rsl_, ((san_ : Sa w _ bl bv A0 c0 l0.length u1 u2 u3)).b⟩
  · rw [if_neg e0] at h
    have q0 : (t1 == 0) = false := beq_eq_false_iff_ne.2 e0
    clear e0
    by_cases e1 : t1 > 0
    · rw [if_pos e1] at h
      have q1 : decide (0 < t1) = true := decide_eq_true e1
      simp only [Option.some.injEq, Prod.mk.injEq] at h
      obtain ⟨rfl, rfl, rfl, rfl, rfl⟩ := h
      clear e1
      go_enter Tryz.func34, Tryz.ntmps34
      go_wp2_with (first | go_step3 | ((with_reducible refine gate_dst (N := 2) rfl ?_); refine box_event ?hg (N := 2) ?hd (cs := #[.slice A0 l0.length c0]) (t := 41) ?hr ?_; (case hd => rfl); (case hg => rfl); (case hr => first | (go_simp; done) | (go_simp; rfl)); intro bl hg w2 hbox hb; have n0_ := Aside0.mk (below_step bel_ hb); have BL := Aside0.mk hbox; have OL := Aside0.mk ((bsz_ hg : w.heap.size ≤ bl)); clear HB; have HB := n0_; clear n0_ hb hbox hg) | ((with_reducible refine gate_dst (N := 4) rfl ?_); refine box_event ?hg (N := 4) ?hd (cs := #[.int .i64 0, .int .i64 0, .string (⟨#[]⟩ : ByteArray)]) (t := 32) ?hr ?_; (case hd => rfl); (case hg => rfl); (case hr => first | (go_simp; done) | (go_simp; rfl)); intro bv hg w3 hbox hb; have HX : Aside0 (Sa w w3 bl bv A0 c0 l0.length 0 0 ⟨#[]⟩) := ⟨⟨(blb_ BL hb).out, hbox, below_step bel_ hb, OL.out, blt_ BL hg⟩⟩; clear HB BL OL hb hbox hg; have hcl := HX.out.cl; have hc0 := HX.out.c0; have hc1 := HX.out.c1; have hc2 := HX.out.c2; obtain ⟨hz0, hz1, hz2⟩ := HX.out.f; obtain ⟨hn0, hn1⟩ := HX.out.ne) | ((with_reducible refine gate_dst (N := 21) rfl ?_); refine Kd.R_lit Kd.string _ 9 ?hg (N := 21) ?hd (xs := line_Read.keys) (inner := [.string (⟨#[97, 117, 116, 111]⟩ : ByteArray), .string (⟨#[105, 110, 104, 101, 114, 105, 116]⟩ : ByteArray), .string (⟨#[105, 110, 105, 116, 105, 97, 108]⟩ : ByteArray), .string (⟨#[117, 110, 115, 101, 116]⟩ : ByteArray), .string (⟨#[114, 101, 118, 101, 114, 116]⟩ : ByteArray)]) (ok := fun _ => True) (okp := fun _ => True) ?hr ?hp (fun _ hk => hk) trivial (Below.refl _ _) (Nat.le_refl _) (by unfold line_Read.keys; simp) ?_; (case hd => rfl); (case hg => rfl); (case hr => first | (go_simp; done) | (go_simp; rfl)); (case hp => exact (Reps.one (show Kd.M Kd.string _ _ _ (⟨#[97, 117, 116, 111]⟩ : ByteArray) [.string (⟨#[97, 117, 116, 111]⟩ : ByteArray)] from rfl) (Reps.one (show Kd.M Kd.string _ _ _ (⟨#[105, 110, 104, 101, 114, 105, 116]⟩ : ByteArray) [.string (⟨#[105, 110, 104, 101, 114, 105, 116]⟩ : ByteArray)] from rfl) (Reps.one (show Kd.M Kd.string _ _ _ (⟨#[105, 110, 105, 116, 105, 97, 108]⟩ : ByteArray) [.string (⟨#[105, 110, 105, 116, 105, 97, 108]⟩ : ByteArray)] from rfl) (Reps.one (show Kd.M Kd.string _ _ _ (⟨#[117, 110, 115, 101, 116]⟩ : ByteArray) [.string (⟨#[117, 110, 115, 101, 116]⟩ : ByteArray)] from rfl) (Reps.one (show Kd.M Kd.string _ _ _ (⟨#[114, 101, 118, 101, 114, 116]⟩ : ByteArray) [.string (⟨#[114, 101, 118, 101, 114, 116]⟩ : ByteArray)] from rfl) (Reps.none _ _))))))); intro v9 w9 ho10 hb hg_ hnew_; clear hg_ hnew_; rw [NY.out] at ho10; have HO := Aside0.mk ho10; have n0_ := Aside0.mk (Sa.below (san_ : Sa w _ bl bv A0 c0 l0.length _ _ _) hb); clear HX; have HX := n0_; clear n0_ hb ho10; obtain ⟨Ao, co, eo⟩ := Kd.R_slice HO.out; subst eo) | ((with_reducible refine gate_callee (f := 46) rfl ?_); refine goesL_ (some 22) rfl rfl Tryz.func46 (by kernel_rfl) rfl #[.slice A0 l0.length c0, .int .i64 a1, .slice Ao ys.length co] rfl goa_ ?_; (with_reducible refine (value_Keyword.calls k _ _ l0 a1 _ _ ys t1 t2 _ ?side1 ?side2 ?side3 ?side4 A1.out).mono ?_); (case side1 => exact Sa.C (san_ : Sa w _ bl bv A0 c0 l0.length _ _ _) HR.out); (case side2 => exact HC.out); (case side3 => repeat (first | exact (Kd.R_reads' HO.out).2.2 | (with_reducible refine Kd.C_alloc ?_ _) | (with_reducible refine Kd.C_drewN ?_ _) | (with_reducible refine Kd.C_drew ?_))); (case side4 => exact (Kd.R_reads' HO.out).2.1); rintro e w12 ⟨rfl, hb⟩; refine ⟨_, rfl, ?_⟩; have n0_ := Aside0.mk (Sa.below (san_ : Sa w _ bl bv A0 c0 l0.length _ _ _) hb); clear HX HO; have HX := n0_; clear n0_ hb; have hcl := HX.out.cl; have hc0 := HX.out.c0; have hc1 := HX.out.c1; have hc2 := HX.out.c2; obtain ⟨hz0, hz1, hz2⟩ := HX.out.f; obtain ⟨hn0, hn1⟩ := HX.out.ne))
      (try (rw [Exit.noGoto_ret]; try dsimp only [Exit.inBlock, Exit.then]))
      refine bodyPost_ret (results_ctt rfl _ _ bv 32 #[.int .i64 0, .int .i64 0, .string (⟨#[]⟩ : ByteArray)] (0, 0) _ rfl ((san_ : Sa w _ bl bv A0 c0 l0.length 0 0 ⟨#[]⟩)).v Tryz.underlying32 rfl (by kernel_rfl)) rfl ?_
      exact ⟨rsl_, ((san_ : Sa w _ bl bv A0 c0 l0.length 0 0 ⟨#[]⟩)).b⟩
    · rw [if_neg e1] at h
      have q1 : decide (0 < t1) = false := decide_eq_false e1
      clear e1
      replace h := Option.bind_eq_some_iff.mp h
      obtain ⟨⟨nu, sp, kk, nm⟩, hl, h⟩ := h
      have HL := Aside0.mk hl
      have HF := Aside0.mk h
      clear hl h
      dsimp only at HF
      go_enter Tryz.func34, Tryz.ntmps34
      go_upto_block 1 with (first | go_step3 | ((with_reducible refine gate_dst (N := 2) rfl ?_); refine box_event ?hg (N := 2) ?hd (cs := #[.slice A0 l0.length c0]) (t := 41) ?hr ?_; (case hd => rfl); (case hg => rfl); (case hr => first | (go_simp; done) | (go_simp; rfl)); intro bl hg w2 hbox hb; have n0_ := Aside0.mk (below_step bel_ hb); have BL := Aside0.mk hbox; have OL := Aside0.mk ((bsz_ hg : w.heap.size ≤ bl)); clear HB; have HB := n0_; clear n0_ hb hbox hg) | ((with_reducible refine gate_dst (N := 4) rfl ?_); refine box_event ?hg (N := 4) ?hd (cs := #[.int .i64 0, .int .i64 0, .string (⟨#[]⟩ : ByteArray)]) (t := 32) ?hr ?_; (case hd => rfl); (case hg => rfl); (case hr => first | (go_simp; done) | (go_simp; rfl)); intro bv hg w3 hbox hb; have HX : Aside0 (Sa w w3 bl bv A0 c0 l0.length 0 0 ⟨#[]⟩) := ⟨⟨(blb_ BL hb).out, hbox, below_step bel_ hb, OL.out, blt_ BL hg⟩⟩; clear HB BL OL hb hbox hg; have hcl := HX.out.cl; have hc0 := HX.out.c0; have hc1 := HX.out.c1; have hc2 := HX.out.c2; obtain ⟨hz0, hz1, hz2⟩ := HX.out.f; obtain ⟨hn0, hn1⟩ := HX.out.ne) | ((with_reducible refine gate_dst (N := 21) rfl ?_); refine Kd.R_lit Kd.string _ 9 ?hg (N := 21) ?hd (xs := line_Read.keys) (inner := [.string (⟨#[97, 117, 116, 111]⟩ : ByteArray), .string (⟨#[105, 110, 104, 101, 114, 105, 116]⟩ : ByteArray), .string (⟨#[105, 110, 105, 116, 105, 97, 108]⟩ : ByteArray), .string (⟨#[117, 110, 115, 101, 116]⟩ : ByteArray), .string (⟨#[114, 101, 118, 101, 114, 116]⟩ : ByteArray)]) (ok := fun _ => True) (okp := fun _ => True) ?hr ?hp (fun _ hk => hk) trivial (Below.refl _ _) (Nat.le_refl _) (by unfold line_Read.keys; simp) ?_; (case hd => rfl); (case hg => rfl); (case hr => first | (go_simp; done) | (go_simp; rfl)); (case hp => exact (Reps.one (show Kd.M Kd.string _ _ _ (⟨#[97, 117, 116, 111]⟩ : ByteArray) [.string (⟨#[97, 117, 116, 111]⟩ : ByteArray)] from rfl) (Reps.one (show Kd.M Kd.string _ _ _ (⟨#[105, 110, 104, 101, 114, 105, 116]⟩ : ByteArray) [.string (⟨#[105, 110, 104, 101, 114, 105, 116]⟩ : ByteArray)] from rfl) (Reps.one (show Kd.M Kd.string _ _ _ (⟨#[105, 110, 105, 116, 105, 97, 108]⟩ : ByteArray) [.string (⟨#[105, 110, 105, 116, 105, 97, 108]⟩ : ByteArray)] from rfl) (Reps.one (show Kd.M Kd.string _ _ _ (⟨#[117, 110, 115, 101, 116]⟩ : ByteArray) [.string (⟨#[117, 110, 115, 101, 116]⟩ : ByteArray)] from rfl) (Reps.one (show Kd.M Kd.string _ _ _ (⟨#[114, 101, 118, 101, 114, 116]⟩ : ByteArray) [.string (⟨#[114, 101, 118, 101, 114, 116]⟩ : ByteArray)] from rfl) (Reps.none _ _))))))); intro v9 w9 ho10 hb hg_ hnew_; clear hg_ hnew_; rw [NY.out] at ho10; have HO := Aside0.mk ho10; have n0_ := Aside0.mk (Sa.below (san_ : Sa w _ bl bv A0 c0 l0.length _ _ _) hb); clear HX; have HX := n0_; clear n0_ hb ho10; obtain ⟨Ao, co, eo⟩ := Kd.R_slice HO.out; subst eo) | ((with_reducible refine gate_callee (f := 46) rfl ?_); refine goesL_ (some 22) rfl rfl Tryz.func46 (by kernel_rfl) rfl #[.slice A0 l0.length c0, .int .i64 a1, .slice Ao ys.length co] rfl goa_ ?_; (with_reducible refine (value_Keyword.calls k _ _ l0 a1 _ _ ys t1 t2 _ ?side1 ?side2 ?side3 ?side4 A1.out).mono ?_); (case side1 => exact Sa.C (san_ : Sa w _ bl bv A0 c0 l0.length _ _ _) HR.out); (case side2 => exact HC.out); (case side3 => repeat (first | exact (Kd.R_reads' HO.out).2.2 | (with_reducible refine Kd.C_alloc ?_ _) | (with_reducible refine Kd.C_drewN ?_ _) | (with_reducible refine Kd.C_drew ?_))); (case side4 => exact (Kd.R_reads' HO.out).2.1); rintro e w12 ⟨rfl, hb⟩; refine ⟨_, rfl, ?_⟩; have n0_ := Aside0.mk (Sa.below (san_ : Sa w _ bl bv A0 c0 l0.length _ _ _) hb); clear HX HO; have HX := n0_; clear n0_ hb; have hcl := HX.out.cl; have hc0 := HX.out.c0; have hc1 := HX.out.c1; have hc2 := HX.out.c2; obtain ⟨hz0, hz1, hz2⟩ := HX.out.f; obtain ⟨hn0, hn1⟩ := HX.out.ne) | ((with_reducible refine gate_dst (N := 11) rfl ?_); refine box_event ?hg (N := 11) ?hd (cs := #[.int .i64 0]) (t := 3) ?hr ?_; (case hd => rfl); (case hg => rfl); (case hr => first | (go_simp; done) | (go_simp; rfl)); intro bk hg w14 hbox hb; have n0_ := Aside0.mk (Sa.st (k := 0) (san_ : Sa w _ bl bv A0 c0 l0.length _ _ _) rfl hg hbox hb); clear HX; have HX := n0_; clear n0_ hb hbox hg; have hcl := HX.out.cl; have hc0 := HX.out.c0; have hc1 := HX.out.c1; have hc2 := HX.out.c2; have hck := HX.out.ck; obtain ⟨hz0, hz1, hz2, hzk⟩ := HX.out.f; obtain ⟨hn0, hn1, hn2, hn3, hn4, hn5⟩ := HX.out.ne))
      go_cut [9, 10] (fun v9 v10 wc => v9 = .int .i64 nu ∧ v10 = .int .i64 sp ∧ Aside0 (St w wc bl bv bk A0 c0 l0.length 0 0 nm kk))
      case first =>
        clear HF
        go_wp2_with (first | go_step3)
        go_loopg [9, 10] k (fun kq v9 v10 wr => ∃ (nu1 sp1 k1 : Int) (nm1 : ByteArray), v9 = .int .i64 nu1 ∧ v10 = .int .i64 sp1 ∧ Aside0 (line_Read.l0 kq l0 a1 nu1 sp1 k1 nm1 = some (nu, sp, kk, nm)) ∧ Aside0 (St w wr bl bv bk A0 c0 l0.length 0 0 nm1 k1))
        case atStart => exact ⟨-1, -1, a1, ⟨#[]⟩, rfl, rfl, HL, ⟨(stn_ : St w _ bl bv bk A0 c0 l0.length _ _ _ _)⟩⟩
        case round =>
          clear HX hcl hc0 hc1 hc2 hck hz0 hz1 hz2 hzk HL
          obtain ⟨nu1, sp1, k1, nm1, rfl, rfl, HL, HX⟩ := hrel
          have hcl := HX.out.cl
          have hc0 := HX.out.c0
          have hc1 := HX.out.c1
          have hc2 := HX.out.c2
          have hck := HX.out.ck
          obtain ⟨hz0, hz1, hz2, hzk⟩ := HX.out.f
          cases gk with
          | zero => exact absurd HL.out (by simp [line_Read.l0])
          | succ kq =>
            have hl := l0_step HL.out
            clear HL
            rcases hl with ⟨qn, AN, HL⟩ | ⟨⟨qn, AN⟩ | qn, ⟨AS, qs, qk, hR⟩ | ⟨AS, qs, qk, HL⟩ | ⟨⟨AS, qs⟩ | AS, ⟨qm, AC, HL⟩ | ⟨qm, AC, hR⟩ | ⟨qm, hR⟩⟩⟩
            all_goals try (simp only [Prod.mk.injEq] at hR; obtain ⟨rfl, rfl, rfl, rfl⟩ := hR)
            all_goals (go_wp2_with (first | go_step3 | (go_at_call 64; with_reducible refine (text_calls bk bl A0 c0 l0 k1 _ ?g1 ?g2 ?g3 HC.out).mono ?_; (case g1 => exact St.ck (stn_ : St w _ bl bv bk A0 c0 l0.length _ _ _ _)); (case g2 => exact St.cl (stn_ : St w _ bl bv bk A0 c0 l0.length _ _ _ _)); (case g3 => exact St.C (stn_ : St w _ bl bv bk A0 c0 l0.length _ _ _ _) HR.out); rintro e w5 ⟨rfl, ⟨nd, rfl⟩⟩) | (go_at_call 65; with_reducible refine (num_calls kq bl bk A0 c0 l0 k1 _ _ ?g1 ?g2 ?g3 HC.out AN.out).mono ?_; (case g1 => exact St.cl (stn_ : St w _ bl bv bk A0 c0 l0.length _ _ _ _)); (case g2 => exact St.ck (stn_ : St w _ bl bv bk A0 c0 l0.length _ _ _ _)); (case g3 => exact St.C (stn_ : St w _ bl bv bk A0 c0 l0.length _ _ _ _) HR.out); rintro e w6 ⟨rfl, hb⟩; have n0_ := Aside0.mk (St.below (stn_ : St w _ bl bv bk A0 c0 l0.length _ _ _ _) hb); clear HX; have HX := n0_; clear n0_ hb; have hcl := HX.out.cl; have hc0 := HX.out.c0; have hc1 := HX.out.c1; have hc2 := HX.out.c2; have hck := HX.out.ck; obtain ⟨hz0, hz1, hz2, hzk⟩ := HX.out.f; obtain ⟨hn0, hn1, hn2, hn3, hn4, hn5⟩ := HX.out.ne) | (go_at_call 67; with_reducible refine (ident_Is.calls _ _ _ _ AS.out).mono ?_; rintro e w7 ⟨rfl, hb⟩; have n0_ := Aside0.mk (St.below (stn_ : St w _ bl bv bk A0 c0 l0.length _ _ _ _) hb); clear HX; have HX := n0_; clear n0_ hb; have hcl := HX.out.cl; have hc0 := HX.out.c0; have hc1 := HX.out.c1; have hc2 := HX.out.c2; have hck := HX.out.ck; obtain ⟨hz0, hz1, hz2, hzk⟩ := HX.out.f; obtain ⟨hn0, hn1, hn2, hn3, hn4, hn5⟩ := HX.out.ne) | (go_at_call 37; with_reducible refine (ident_Custom.calls _ _ _ AC.out).mono ?_; rintro e w8 ⟨rfl, hb⟩; have n0_ := Aside0.mk (St.below (stn_ : St w _ bl bv bk A0 c0 l0.length _ _ _ _) hb); clear HX; have HX := n0_; clear n0_ hb; have hcl := HX.out.cl; have hc0 := HX.out.c0; have hc1 := HX.out.c1; have hc2 := HX.out.c2; have hck := HX.out.ck; obtain ⟨hz0, hz1, hz2, hzk⟩ := HX.out.f; obtain ⟨hn0, hn1, hn2, hn3, hn4, hn5⟩ := HX.out.ne)))
            all_goals (first | (go_roundg kq; (case measure => omega); (case rel => exact ⟨_, _, _, _, rfl, rfl, HL, ⟨(stn_ : St w _ bl bv bk A0 c0 l0.length _ _ _ _)⟩⟩)) | (go_meet; case rel => exact ⟨rfl, rfl, ⟨(stn_ : St w _ bl bv bk A0 c0 l0.length _ _ _ _)⟩⟩))
      case rest =>
        obtain ⟨rfl, rfl, HX⟩ := hcut
        have hcl := HX.out.cl
        have hc0 := HX.out.c0
        have hc1 := HX.out.c1
        have hc2 := HX.out.c2
        have hck := HX.out.ck
        obtain ⟨hz0, hz1, hz2, hzk⟩ := HX.out.f
        have h := HF.out
        clear HF HL
        unfold line_Read.fin at h
        by_cases e1 : kk = a1
        · have e1q : (kk == a1) = true := beq_iff_eq.2 e1
          rw [if_pos e1] at h
          simp only [Option.some.injEq, Prod.mk.injEq] at h
          obtain ⟨rfl, rfl, rfl, rfl, rfl⟩ := h
          go_wp2_with (first | go_step3 | (go_at_call 66; with_reducible refine (value_Integer.calls k _ _ l0 nu r1 r2 r3 _ ?g1 HC.out AI.out).mono ?_; (case g1 => exact St.C (stn_ : St w _ bl bv bk A0 c0 l0.length _ _ _ _) HR.out); rintro e w9 ⟨rfl, hb⟩; have n0_ := Aside0.mk (St.below (stn_ : St w _ bl bv bk A0 c0 l0.length _ _ _ _) hb); clear HX; have HX := n0_; clear n0_ hb; have hcl := HX.out.cl; have hc0 := HX.out.c0; have hc1 := HX.out.c1; have hc2 := HX.out.c2; have hck := HX.out.ck; obtain ⟨hz0, hz1, hz2, hzk⟩ := HX.out.f; obtain ⟨hn0, hn1, hn2, hn3, hn4, hn5⟩ := HX.out.ne))
          (try (rw [Exit.noGoto_ret]; try dsimp only [Exit.inBlock, Exit.then]))
          refine bodyPost_ret (results_ctt rfl _ _ bv 32 #[.int .i64 0, .int .i64 0, .string nm] (0, 0) _ rfl ((stn_ : St w _ bl bv bk A0 c0 l0.length 0 0 nm _)).v Tryz.underlying32 rfl (by kernel_rfl)) rfl ?_
          exact ⟨rsl_, ((stn_ : St w _ bl bv bk A0 c0 l0.length 0 0 nm _)).b⟩
        · have e1q : (kk == a1) = false := beq_eq_false_iff_ne.2 e1
          rw [if_neg e1] at h
          by_cases e2 : sp ≥ 0
          · have e2q : decide (0 ≤ sp) = true := decide_eq_true e2
            by_cases e3 : nu < 0
            · have e3q : decide (nu < 0) = true := decide_eq_true e3
              by_cases e4 : nm.toList = []
              · have e4q : (nm.toList == ([] : List UInt8)) = true := beq_iff_eq.mpr e4
                rw [if_pos ⟨e2, e3, e4⟩] at h
                simp only [Option.some.injEq, Prod.mk.injEq] at h
                obtain ⟨rfl, rfl, rfl, rfl, rfl⟩ := h
                go_wp2_with (first | go_step3 | (go_at_call 66; with_reducible refine (value_Integer.calls k _ _ l0 nu r1 r2 r3 _ ?g1 HC.out AI.out).mono ?_; (case g1 => exact St.C (stn_ : St w _ bl bv bk A0 c0 l0.length _ _ _ _) HR.out); rintro e w9 ⟨rfl, hb⟩; have n0_ := Aside0.mk (St.below (stn_ : St w _ bl bv bk A0 c0 l0.length _ _ _ _) hb); clear HX; have HX := n0_; clear n0_ hb; have hcl := HX.out.cl; have hc0 := HX.out.c0; have hc1 := HX.out.c1; have hc2 := HX.out.c2; have hck := HX.out.ck; obtain ⟨hz0, hz1, hz2, hzk⟩ := HX.out.f; obtain ⟨hn0, hn1, hn2, hn3, hn4, hn5⟩ := HX.out.ne))
                refine at_ (fun w4 hw4 => ?_)
                have HX4 : Aside0 (St w w4.drew bl bv bk A0 c0 l0.length 0 0 nm kk) := ⟨St.drew (by rw [hw4]; exact stn_)⟩
                clear hw4 HX hcl hc0 hc1 hc2 hck hz0 hz1 hz2 hzk
                refine start_ (n := 5) (S := (fun w' => w'.cell? ⟨bv, 0, none⟩ = some (.int .i64 0) ∧ w'.cell? ⟨bv, 1, none⟩ = some (.int .i64 0) ∧ w'.cell? ⟨bv, 2, none⟩ = some (.string nm) ∧ w'.cell? ⟨bk, 0, none⟩ = some (.int .i64 kk))) (ds := []) #[false, false, false, false, false] (by kernel_rfl) rfl rfl ⟨HX4.out.c0, HX4.out.c1, HX4.out.c2, HX4.out.ck⟩ (fun hHeld => ?_)
                refine with_tabW Read.tab22 Read.bits22 (fun HT_ HW_ => ?_)
                generalize w4.drew = w5 at HX4 hHeld ⊢
                obtain ⟨hz0, hz1, hz2, hzk⟩ := HX4.out.f
                refine tas_ 0 (some 91) #[true, false, false, false, false] rfl rfl HT_.out HW_.out hHeld ?_
                refine tas_ 1 (some 92) #[true, true, false, false, false] rfl rfl HT_.out HW_.out hHeld ?_
                have hc0 := HX4.out.c0
                have hc1 := HX4.out.c1
                have hc2 := HX4.out.c2
                have HX6 := Aside0.mk (((HX4.out.setv0 0).setv1 0).setv2 nm)
                refine one_ (i := 2) (N := none) #[true, true, true, false, false] rfl rfl (one_of HT_.out (by kernel_rfl)) (by decide) (fun K hK => ?_)
                refine skip_ (w1 := ?_) (by rfl) rfl ?_ ?_
                rotate_left
                ·go_simp
                 rfl
                refine hK.out _ _ ⟨HX6.out.c0, HX6.out.c1, HX6.out.c2, HX6.out.ck⟩ (fun hHeld => ?_)
                clear hK K
                refine pus_ 3 (some 5) #[true, true, true, true, false] rfl rfl HT_.out ?_
                refine pus_ 4 (some 6) #[true, true, true, true, true] rfl rfl HT_.out ?_
                refine done_ (done_of HT_.out (by kernel_rfl)) ?_
                go_wp2
                (try (rw [Exit.noGoto_ret]; try dsimp only [Exit.inBlock, Exit.then]))
                refine bodyPost_ret (results_ctt rfl _ _ bv 32 #[.int .i64 0, .int .i64 0, .string nm] (0, 0) _ rfl HX6.out.v Tryz.underlying32 rfl (by kernel_rfl)) rfl ?_
                exact ⟨rsl_, HX6.out.b⟩
              · have e4q : (nm.toList == ([] : List UInt8)) = false := beq_eq_false_iff_ne.mpr e4
                rw [if_neg (fun z => e4 z.2.2), if_pos e3, if_pos e2, if_pos e2] at h
                simp only [Option.some.injEq, Prod.mk.injEq] at h
                obtain ⟨rfl, rfl, rfl, rfl, rfl⟩ := h
                go_wp2_with (first | go_step3 | (go_at_call 66; with_reducible refine (value_Integer.calls k _ _ l0 nu r1 r2 r3 _ ?g1 HC.out AI.out).mono ?_; (case g1 => exact St.C (stn_ : St w _ bl bv bk A0 c0 l0.length _ _ _ _) HR.out); rintro e w9 ⟨rfl, hb⟩; have n0_ := Aside0.mk (St.below (stn_ : St w _ bl bv bk A0 c0 l0.length _ _ _ _) hb); clear HX; have HX := n0_; clear n0_ hb; have hcl := HX.out.cl; have hc0 := HX.out.c0; have hc1 := HX.out.c1; have hc2 := HX.out.c2; have hck := HX.out.ck; obtain ⟨hz0, hz1, hz2, hzk⟩ := HX.out.f; obtain ⟨hn0, hn1, hn2, hn3, hn4, hn5⟩ := HX.out.ne))
                refine at_ (fun w4 hw4 => ?_)
                have HX4 : Aside0 (St w w4.drew bl bv bk A0 c0 l0.length 4 1 nm kk) := ⟨St.drew (by rw [hw4]; exact stn_)⟩
                clear hw4 HX hcl hc0 hc1 hc2 hck hz0 hz1 hz2 hzk
                refine start_ (n := 5) (S := (fun w' => w'.cell? ⟨bv, 0, none⟩ = some (.int .i64 4) ∧ w'.cell? ⟨bv, 1, none⟩ = some (.int .i64 1) ∧ w'.cell? ⟨bv, 2, none⟩ = some (.string nm) ∧ w'.cell? ⟨bk, 0, none⟩ = some (.int .i64 kk))) (ds := []) #[false, false, false, false, false] (by kernel_rfl) rfl rfl ⟨HX4.out.c0, HX4.out.c1, HX4.out.c2, HX4.out.ck⟩ (fun hHeld => ?_)
                refine with_tabW Read.tab27 Read.bits27 (fun HT_ HW_ => ?_)
                generalize w4.drew = w5 at HX4 hHeld ⊢
                obtain ⟨hz0, hz1, hz2, hzk⟩ := HX4.out.f
                refine tas_ 0 (some 100) #[true, false, false, false, false] rfl rfl HT_.out HW_.out hHeld ?_
                refine tas_ 1 (some 101) #[true, true, false, false, false] rfl rfl HT_.out HW_.out hHeld ?_
                have hc0 := HX4.out.c0
                have hc1 := HX4.out.c1
                have hc2 := HX4.out.c2
                have HX6 := Aside0.mk (((HX4.out.setv0 4).setv1 1).setv2 nm)
                refine one_ (i := 2) (N := none) #[true, true, true, false, false] rfl rfl (one_of HT_.out (by kernel_rfl)) (by decide) (fun K hK => ?_)
                refine skip_ (w1 := ?_) (by rfl) rfl ?_ ?_
                rotate_left
                ·go_simp
                 rfl
                refine hK.out _ _ ⟨HX6.out.c0, HX6.out.c1, HX6.out.c2, HX6.out.ck⟩ (fun hHeld => ?_)
                clear hK K
                refine pus_ 3 (some 5) #[true, true, true, true, false] rfl rfl HT_.out ?_
                refine pus_ 4 (some 6) #[true, true, true, true, true] rfl rfl HT_.out ?_
                refine done_ (done_of HT_.out (by kernel_rfl)) ?_
                go_wp2
                (try (rw [Exit.noGoto_ret]; try dsimp only [Exit.inBlock, Exit.then]))
                refine bodyPost_ret (results_ctt rfl _ _ bv 32 #[.int .i64 4, .int .i64 1, .string nm] (0, 0) _ rfl HX6.out.v Tryz.underlying32 rfl (by kernel_rfl)) rfl ?_
                exact ⟨rsl_, HX6.out.b⟩
            · have e3q : decide (nu < 0) = false := decide_eq_false e3
              rw [if_neg (fun z => e3 z.2.1), if_neg e3] at h
              replace h := Option.bind_eq_some_iff.mp h
              obtain ⟨⟨r1, r2, r3⟩, hI, h⟩ := h
              have AI := Aside0.mk hI
              clear hI
              dsimp only at h
              have e2r : decide (sp < 0) = false := decide_eq_false (by omega)
              by_cases e5 : r3 ≠ 0
              · have e5q : (r3 != 0) = true := bne_iff_ne.2 e5
                rw [if_pos (Or.inl e5)] at h
                simp only [Option.some.injEq, Prod.mk.injEq] at h
                obtain ⟨rfl, rfl, rfl, rfl, rfl⟩ := h
                go_wp2_with (first | go_step3 | (go_at_call 66; with_reducible refine (value_Integer.calls k _ _ l0 nu r1 r2 r3 _ ?g1 HC.out AI.out).mono ?_; (case g1 => exact St.C (stn_ : St w _ bl bv bk A0 c0 l0.length _ _ _ _) HR.out); rintro e w9 ⟨rfl, hb⟩; have n0_ := Aside0.mk (St.below (stn_ : St w _ bl bv bk A0 c0 l0.length _ _ _ _) hb); clear HX; have HX := n0_; clear n0_ hb; have hcl := HX.out.cl; have hc0 := HX.out.c0; have hc1 := HX.out.c1; have hc2 := HX.out.c2; have hck := HX.out.ck; obtain ⟨hz0, hz1, hz2, hzk⟩ := HX.out.f; obtain ⟨hn0, hn1, hn2, hn3, hn4, hn5⟩ := HX.out.ne))
                (try (rw [Exit.noGoto_ret]; try dsimp only [Exit.inBlock, Exit.then]))
                refine bodyPost_ret (results_ctt rfl _ _ bv 32 #[.int .i64 0, .int .i64 0, .string (⟨#[]⟩ : ByteArray)] (0, 0) _ rfl ((stn_ : St w _ bl bv bk A0 c0 l0.length 0 0 (⟨#[]⟩ : ByteArray) _)).v Tryz.underlying32 rfl (by kernel_rfl)) rfl ?_
                exact ⟨rsl_, ((stn_ : St w _ bl bv bk A0 c0 l0.length 0 0 (⟨#[]⟩ : ByteArray) _)).b⟩
              · have e5q : (r3 != 0) = false := by rw [bne_eq_false_iff_eq]; omega
                by_cases e6 : r1 > 10000
                · have e6q : decide (10000 < r1) = true := decide_eq_true e6
                  rw [if_pos (Or.inr (Or.inl e6))] at h
                  simp only [Option.some.injEq, Prod.mk.injEq] at h
                  obtain ⟨rfl, rfl, rfl, rfl, rfl⟩ := h
                  go_wp2_with (first | go_step3 | (go_at_call 66; with_reducible refine (value_Integer.calls k _ _ l0 nu r1 r2 r3 _ ?g1 HC.out AI.out).mono ?_; (case g1 => exact St.C (stn_ : St w _ bl bv bk A0 c0 l0.length _ _ _ _) HR.out); rintro e w9 ⟨rfl, hb⟩; have n0_ := Aside0.mk (St.below (stn_ : St w _ bl bv bk A0 c0 l0.length _ _ _ _) hb); clear HX; have HX := n0_; clear n0_ hb; have hcl := HX.out.cl; have hc0 := HX.out.c0; have hc1 := HX.out.c1; have hc2 := HX.out.c2; have hck := HX.out.ck; obtain ⟨hz0, hz1, hz2, hzk⟩ := HX.out.f; obtain ⟨hn0, hn1, hn2, hn3, hn4, hn5⟩ := HX.out.ne))
                  (try (rw [Exit.noGoto_ret]; try dsimp only [Exit.inBlock, Exit.then]))
                  refine bodyPost_ret (results_ctt rfl _ _ bv 32 #[.int .i64 0, .int .i64 0, .string (⟨#[]⟩ : ByteArray)] (0, 0) _ rfl ((stn_ : St w _ bl bv bk A0 c0 l0.length 0 0 (⟨#[]⟩ : ByteArray) _)).v Tryz.underlying32 rfl (by kernel_rfl)) rfl ?_
                  exact ⟨rsl_, ((stn_ : St w _ bl bv bk A0 c0 l0.length 0 0 (⟨#[]⟩ : ByteArray) _)).b⟩
                · have e6q : decide (10000 < r1) = false := decide_eq_false e6
                  by_cases e7 : r1 < -10000
                  · have e7q : decide (r1 < -10000) = true := decide_eq_true e7
                    rw [if_pos (Or.inr (Or.inr e7))] at h
                    simp only [Option.some.injEq, Prod.mk.injEq] at h
                    obtain ⟨rfl, rfl, rfl, rfl, rfl⟩ := h
                    go_wp2_with (first | go_step3 | (go_at_call 66; with_reducible refine (value_Integer.calls k _ _ l0 nu r1 r2 r3 _ ?g1 HC.out AI.out).mono ?_; (case g1 => exact St.C (stn_ : St w _ bl bv bk A0 c0 l0.length _ _ _ _) HR.out); rintro e w9 ⟨rfl, hb⟩; have n0_ := Aside0.mk (St.below (stn_ : St w _ bl bv bk A0 c0 l0.length _ _ _ _) hb); clear HX; have HX := n0_; clear n0_ hb; have hcl := HX.out.cl; have hc0 := HX.out.c0; have hc1 := HX.out.c1; have hc2 := HX.out.c2; have hck := HX.out.ck; obtain ⟨hz0, hz1, hz2, hzk⟩ := HX.out.f; obtain ⟨hn0, hn1, hn2, hn3, hn4, hn5⟩ := HX.out.ne))
                    (try (rw [Exit.noGoto_ret]; try dsimp only [Exit.inBlock, Exit.then]))
                    refine bodyPost_ret (results_ctt rfl _ _ bv 32 #[.int .i64 0, .int .i64 0, .string (⟨#[]⟩ : ByteArray)] (0, 0) _ rfl ((stn_ : St w _ bl bv bk A0 c0 l0.length 0 0 (⟨#[]⟩ : ByteArray) _)).v Tryz.underlying32 rfl (by kernel_rfl)) rfl ?_
                    exact ⟨rsl_, ((stn_ : St w _ bl bv bk A0 c0 l0.length 0 0 (⟨#[]⟩ : ByteArray) _)).b⟩
                  · have e7q : decide (r1 < -10000) = false := decide_eq_false e7
                    rw [if_neg (by omega)] at h
                    by_cases e8 : r1 = 0
                    · have e8q : (r1 == 0) = true := beq_iff_eq.2 e8
                      rw [if_pos (Or.inl e8)] at h
                      simp only [Option.some.injEq, Prod.mk.injEq] at h
                      obtain ⟨rfl, rfl, rfl, rfl, rfl⟩ := h
                      go_wp2_with (first | go_step3 | (go_at_call 66; with_reducible refine (value_Integer.calls k _ _ l0 nu r1 r2 r3 _ ?g1 HC.out AI.out).mono ?_; (case g1 => exact St.C (stn_ : St w _ bl bv bk A0 c0 l0.length _ _ _ _) HR.out); rintro e w9 ⟨rfl, hb⟩; have n0_ := Aside0.mk (St.below (stn_ : St w _ bl bv bk A0 c0 l0.length _ _ _ _) hb); clear HX; have HX := n0_; clear n0_ hb; have hcl := HX.out.cl; have hc0 := HX.out.c0; have hc1 := HX.out.c1; have hc2 := HX.out.c2; have hck := HX.out.ck; obtain ⟨hz0, hz1, hz2, hzk⟩ := HX.out.f; obtain ⟨hn0, hn1, hn2, hn3, hn4, hn5⟩ := HX.out.ne))
                      (try (rw [Exit.noGoto_ret]; try dsimp only [Exit.inBlock, Exit.then]))
                      refine bodyPost_ret (results_ctt rfl _ _ bv 32 #[.int .i64 0, .int .i64 0, .string (⟨#[]⟩ : ByteArray)] (0, 0) _ rfl ((stn_ : St w _ bl bv bk A0 c0 l0.length 0 0 (⟨#[]⟩ : ByteArray) _)).v Tryz.underlying32 rfl (by kernel_rfl)) rfl ?_
                      exact ⟨rsl_, ((stn_ : St w _ bl bv bk A0 c0 l0.length 0 0 (⟨#[]⟩ : ByteArray) _)).b⟩
                    · have e8q : (r1 == 0) = false := beq_eq_false_iff_ne.2 e8
                      by_cases e9 : r1 < 0
                      · have e9q : decide (r1 < 0) = true := decide_eq_true e9
                        rw [if_pos (Or.inr ⟨e9, e2⟩)] at h
                        simp only [Option.some.injEq, Prod.mk.injEq] at h
                        obtain ⟨rfl, rfl, rfl, rfl, rfl⟩ := h
                        go_wp2_with (first | go_step3 | (go_at_call 66; with_reducible refine (value_Integer.calls k _ _ l0 nu r1 r2 r3 _ ?g1 HC.out AI.out).mono ?_; (case g1 => exact St.C (stn_ : St w _ bl bv bk A0 c0 l0.length _ _ _ _) HR.out); rintro e w9 ⟨rfl, hb⟩; have n0_ := Aside0.mk (St.below (stn_ : St w _ bl bv bk A0 c0 l0.length _ _ _ _) hb); clear HX; have HX := n0_; clear n0_ hb; have hcl := HX.out.cl; have hc0 := HX.out.c0; have hc1 := HX.out.c1; have hc2 := HX.out.c2; have hck := HX.out.ck; obtain ⟨hz0, hz1, hz2, hzk⟩ := HX.out.f; obtain ⟨hn0, hn1, hn2, hn3, hn4, hn5⟩ := HX.out.ne))
                        (try (rw [Exit.noGoto_ret]; try dsimp only [Exit.inBlock, Exit.then]))
                        refine bodyPost_ret (results_ctt rfl _ _ bv 32 #[.int .i64 0, .int .i64 0, .string (⟨#[]⟩ : ByteArray)] (0, 0) _ rfl ((stn_ : St w _ bl bv bk A0 c0 l0.length 0 0 (⟨#[]⟩ : ByteArray) _)).v Tryz.underlying32 rfl (by kernel_rfl)) rfl ?_
                        exact ⟨rsl_, ((stn_ : St w _ bl bv bk A0 c0 l0.length 0 0 (⟨#[]⟩ : ByteArray) _)).b⟩
                      · have e9q : decide (r1 < 0) = false := decide_eq_false e9
                        rw [if_neg (by omega), if_neg (by omega)] at h
                        simp only [Option.some.injEq, Prod.mk.injEq] at h
                        obtain ⟨rfl, rfl, rfl, rfl, rfl⟩ := h
                        go_wp2_with (first | go_step3 | (go_at_call 66; with_reducible refine (value_Integer.calls k _ _ l0 nu r1 r2 r3 _ ?g1 HC.out AI.out).mono ?_; (case g1 => exact St.C (stn_ : St w _ bl bv bk A0 c0 l0.length _ _ _ _) HR.out); rintro e w9 ⟨rfl, hb⟩; have n0_ := Aside0.mk (St.below (stn_ : St w _ bl bv bk A0 c0 l0.length _ _ _ _) hb); clear HX; have HX := n0_; clear n0_ hb; have hcl := HX.out.cl; have hc0 := HX.out.c0; have hc1 := HX.out.c1; have hc2 := HX.out.c2; have hck := HX.out.ck; obtain ⟨hz0, hz1, hz2, hzk⟩ := HX.out.f; obtain ⟨hn0, hn1, hn2, hn3, hn4, hn5⟩ := HX.out.ne))
                        refine at_ (fun w4 hw4 => ?_)
                        have HX4 : Aside0 (St w w4.drew bl bv bk A0 c0 l0.length 4 r1 nm kk) := ⟨St.drew (by rw [hw4]; exact stn_)⟩
                        clear hw4 HX hcl hc0 hc1 hc2 hck hz0 hz1 hz2 hzk
                        refine start_ (n := 5) (S := (fun w' => w'.cell? ⟨bv, 0, none⟩ = some (.int .i64 4) ∧ w'.cell? ⟨bv, 1, none⟩ = some (.int .i64 r1) ∧ w'.cell? ⟨bv, 2, none⟩ = some (.string nm) ∧ w'.cell? ⟨bk, 0, none⟩ = some (.int .i64 kk))) (ds := []) #[false, false, false, false, false] (by kernel_rfl) rfl rfl ⟨HX4.out.c0, HX4.out.c1, HX4.out.c2, HX4.out.ck⟩ (fun hHeld => ?_)
                        refine with_tabW Read.tab36 Read.bits36 (fun HT_ HW_ => ?_)
                        generalize w4.drew = w5 at HX4 hHeld ⊢
                        obtain ⟨hz0, hz1, hz2, hzk⟩ := HX4.out.f
                        refine tas_ 0 (some 140) #[true, false, false, false, false] rfl rfl HT_.out HW_.out hHeld ?_
                        refine tas_ 1 (some 141) #[true, true, false, false, false] rfl rfl HT_.out HW_.out hHeld ?_
                        have hc0 := HX4.out.c0
                        have hc1 := HX4.out.c1
                        have hc2 := HX4.out.c2
                        have HX6 := Aside0.mk (((HX4.out.setv0 4).setv1 r1).setv2 nm)
                        refine one_ (i := 2) (N := none) #[true, true, true, false, false] rfl rfl (one_of HT_.out (by kernel_rfl)) (by decide) (fun K hK => ?_)
                        refine skip_ (w1 := ?_) (by rfl) rfl ?_ ?_
                        rotate_left
                        ·go_simp
                         rfl
                        refine hK.out _ _ ⟨HX6.out.c0, HX6.out.c1, HX6.out.c2, HX6.out.ck⟩ (fun hHeld => ?_)
                        clear hK K
                        refine pus_ 3 (some 5) #[true, true, true, true, false] rfl rfl HT_.out ?_
                        refine pus_ 4 (some 6) #[true, true, true, true, true] rfl rfl HT_.out ?_
                        refine done_ (done_of HT_.out (by kernel_rfl)) ?_
                        go_wp2
                        (try (rw [Exit.noGoto_ret]; try dsimp only [Exit.inBlock, Exit.then]))
                        refine bodyPost_ret (results_ctt rfl _ _ bv 32 #[.int .i64 4, .int .i64 r1, .string nm] (0, 0) _ rfl HX6.out.v Tryz.underlying32 rfl (by kernel_rfl)) rfl ?_
                        exact ⟨rsl_, HX6.out.b⟩
          · have e2q : decide (0 ≤ sp) = false := decide_eq_false e2
            by_cases e3 : nu < 0
            · have e3q : decide (nu < 0) = true := decide_eq_true e3
              rw [if_neg (fun z => e2 z.1), if_pos e3, if_neg e2, if_neg e2] at h
              simp only [Option.some.injEq, Prod.mk.injEq] at h
              obtain ⟨rfl, rfl, rfl, rfl, rfl⟩ := h
              go_wp2_with (first | go_step3 | (go_at_call 66; with_reducible refine (value_Integer.calls k _ _ l0 nu r1 r2 r3 _ ?g1 HC.out AI.out).mono ?_; (case g1 => exact St.C (stn_ : St w _ bl bv bk A0 c0 l0.length _ _ _ _) HR.out); rintro e w9 ⟨rfl, hb⟩; have n0_ := Aside0.mk (St.below (stn_ : St w _ bl bv bk A0 c0 l0.length _ _ _ _) hb); clear HX; have HX := n0_; clear n0_ hb; have hcl := HX.out.cl; have hc0 := HX.out.c0; have hc1 := HX.out.c1; have hc2 := HX.out.c2; have hck := HX.out.ck; obtain ⟨hz0, hz1, hz2, hzk⟩ := HX.out.f; obtain ⟨hn0, hn1, hn2, hn3, hn4, hn5⟩ := HX.out.ne))
              refine at_ (fun w4 hw4 => ?_)
              have HX4 : Aside0 (St w w4.drew bl bv bk A0 c0 l0.length 3 0 nm kk) := ⟨St.drew (by rw [hw4]; exact stn_)⟩
              clear hw4 HX hcl hc0 hc1 hc2 hck hz0 hz1 hz2 hzk
              refine start_ (n := 5) (S := (fun w' => w'.cell? ⟨bv, 0, none⟩ = some (.int .i64 3) ∧ w'.cell? ⟨bv, 1, none⟩ = some (.int .i64 0) ∧ w'.cell? ⟨bv, 2, none⟩ = some (.string nm) ∧ w'.cell? ⟨bk, 0, none⟩ = some (.int .i64 kk))) (ds := []) #[false, false, false, false, false] (by kernel_rfl) rfl rfl ⟨HX4.out.c0, HX4.out.c1, HX4.out.c2, HX4.out.ck⟩ (fun hHeld => ?_)
              refine with_tabW Read.tab27 Read.bits27 (fun HT_ HW_ => ?_)
              generalize w4.drew = w5 at HX4 hHeld ⊢
              obtain ⟨hz0, hz1, hz2, hzk⟩ := HX4.out.f
              refine tas_ 0 (some 100) #[true, false, false, false, false] rfl rfl HT_.out HW_.out hHeld ?_
              refine tas_ 1 (some 101) #[true, true, false, false, false] rfl rfl HT_.out HW_.out hHeld ?_
              have hc0 := HX4.out.c0
              have hc1 := HX4.out.c1
              have hc2 := HX4.out.c2
              have HX6 := Aside0.mk (((HX4.out.setv0 3).setv1 0).setv2 nm)
              refine one_ (i := 2) (N := none) #[true, true, true, false, false] rfl rfl (one_of HT_.out (by kernel_rfl)) (by decide) (fun K hK => ?_)
              refine skip_ (w1 := ?_) (by rfl) rfl ?_ ?_
              rotate_left
              ·go_simp
               rfl
              refine hK.out _ _ ⟨HX6.out.c0, HX6.out.c1, HX6.out.c2, HX6.out.ck⟩ (fun hHeld => ?_)
              clear hK K
              refine pus_ 3 (some 5) #[true, true, true, true, false] rfl rfl HT_.out ?_
              refine pus_ 4 (some 6) #[true, true, true, true, true] rfl rfl HT_.out ?_
              refine done_ (done_of HT_.out (by kernel_rfl)) ?_
              go_wp2
              (try (rw [Exit.noGoto_ret]; try dsimp only [Exit.inBlock, Exit.then]))
              refine bodyPost_ret (results_ctt rfl _ _ bv 32 #[.int .i64 3, .int .i64 0, .string nm] (0, 0) _ rfl HX6.out.v Tryz.underlying32 rfl (by kernel_rfl)) rfl ?_
              exact ⟨rsl_, HX6.out.b⟩
            · have e3q : decide (nu < 0) = false := decide_eq_false e3
              rw [if_neg (fun z => e2 z.1), if_neg e3] at h
              replace h := Option.bind_eq_some_iff.mp h
              obtain ⟨⟨r1, r2, r3⟩, hI, h⟩ := h
              have AI := Aside0.mk hI
              clear hI
              dsimp only at h
              have e2r : decide (sp < 0) = true := decide_eq_true (by omega)
              by_cases e5 : r3 ≠ 0
              · have e5q : (r3 != 0) = true := bne_iff_ne.2 e5
                rw [if_pos (Or.inl e5)] at h
                simp only [Option.some.injEq, Prod.mk.injEq] at h
                obtain ⟨rfl, rfl, rfl, rfl, rfl⟩ := h
                go_wp2_with (first | go_step3 | (go_at_call 66; with_reducible refine (value_Integer.calls k _ _ l0 nu r1 r2 r3 _ ?g1 HC.out AI.out).mono ?_; (case g1 => exact St.C (stn_ : St w _ bl bv bk A0 c0 l0.length _ _ _ _) HR.out); rintro e w9 ⟨rfl, hb⟩; have n0_ := Aside0.mk (St.below (stn_ : St w _ bl bv bk A0 c0 l0.length _ _ _ _) hb); clear HX; have HX := n0_; clear n0_ hb; have hcl := HX.out.cl; have hc0 := HX.out.c0; have hc1 := HX.out.c1; have hc2 := HX.out.c2; have hck := HX.out.ck; obtain ⟨hz0, hz1, hz2, hzk⟩ := HX.out.f; obtain ⟨hn0, hn1, hn2, hn3, hn4, hn5⟩ := HX.out.ne))
                (try (rw [Exit.noGoto_ret]; try dsimp only [Exit.inBlock, Exit.then]))
                refine bodyPost_ret (results_ctt rfl _ _ bv 32 #[.int .i64 0, .int .i64 0, .string (⟨#[]⟩ : ByteArray)] (0, 0) _ rfl ((stn_ : St w _ bl bv bk A0 c0 l0.length 0 0 (⟨#[]⟩ : ByteArray) _)).v Tryz.underlying32 rfl (by kernel_rfl)) rfl ?_
                exact ⟨rsl_, ((stn_ : St w _ bl bv bk A0 c0 l0.length 0 0 (⟨#[]⟩ : ByteArray) _)).b⟩
              · have e5q : (r3 != 0) = false := by rw [bne_eq_false_iff_eq]; omega
                by_cases e6 : r1 > 10000
                · have e6q : decide (10000 < r1) = true := decide_eq_true e6
                  rw [if_pos (Or.inr (Or.inl e6))] at h
                  simp only [Option.some.injEq, Prod.mk.injEq] at h
                  obtain ⟨rfl, rfl, rfl, rfl, rfl⟩ := h
                  go_wp2_with (first | go_step3 | (go_at_call 66; with_reducible refine (value_Integer.calls k _ _ l0 nu r1 r2 r3 _ ?g1 HC.out AI.out).mono ?_; (case g1 => exact St.C (stn_ : St w _ bl bv bk A0 c0 l0.length _ _ _ _) HR.out); rintro e w9 ⟨rfl, hb⟩; have n0_ := Aside0.mk (St.below (stn_ : St w _ bl bv bk A0 c0 l0.length _ _ _ _) hb); clear HX; have HX := n0_; clear n0_ hb; have hcl := HX.out.cl; have hc0 := HX.out.c0; have hc1 := HX.out.c1; have hc2 := HX.out.c2; have hck := HX.out.ck; obtain ⟨hz0, hz1, hz2, hzk⟩ := HX.out.f; obtain ⟨hn0, hn1, hn2, hn3, hn4, hn5⟩ := HX.out.ne))
                  (try (rw [Exit.noGoto_ret]; try dsimp only [Exit.inBlock, Exit.then]))
                  refine bodyPost_ret (results_ctt rfl _ _ bv 32 #[.int .i64 0, .int .i64 0, .string (⟨#[]⟩ : ByteArray)] (0, 0) _ rfl ((stn_ : St w _ bl bv bk A0 c0 l0.length 0 0 (⟨#[]⟩ : ByteArray) _)).v Tryz.underlying32 rfl (by kernel_rfl)) rfl ?_
                  exact ⟨rsl_, ((stn_ : St w _ bl bv bk A0 c0 l0.length 0 0 (⟨#[]⟩ : ByteArray) _)).b⟩
                · have e6q : decide (10000 < r1) = false := decide_eq_false e6
                  by_cases e7 : r1 < -10000
                  · have e7q : decide (r1 < -10000) = true := decide_eq_true e7
                    rw [if_pos (Or.inr (Or.inr e7))] at h
                    simp only [Option.some.injEq, Prod.mk.injEq] at h
                    obtain ⟨rfl, rfl, rfl, rfl, rfl⟩ := h
                    go_wp2_with (first | go_step3 | (go_at_call 66; with_reducible refine (value_Integer.calls k _ _ l0 nu r1 r2 r3 _ ?g1 HC.out AI.out).mono ?_; (case g1 => exact St.C (stn_ : St w _ bl bv bk A0 c0 l0.length _ _ _ _) HR.out); rintro e w9 ⟨rfl, hb⟩; have n0_ := Aside0.mk (St.below (stn_ : St w _ bl bv bk A0 c0 l0.length _ _ _ _) hb); clear HX; have HX := n0_; clear n0_ hb; have hcl := HX.out.cl; have hc0 := HX.out.c0; have hc1 := HX.out.c1; have hc2 := HX.out.c2; have hck := HX.out.ck; obtain ⟨hz0, hz1, hz2, hzk⟩ := HX.out.f; obtain ⟨hn0, hn1, hn2, hn3, hn4, hn5⟩ := HX.out.ne))
                    (try (rw [Exit.noGoto_ret]; try dsimp only [Exit.inBlock, Exit.then]))
                    refine bodyPost_ret (results_ctt rfl _ _ bv 32 #[.int .i64 0, .int .i64 0, .string (⟨#[]⟩ : ByteArray)] (0, 0) _ rfl ((stn_ : St w _ bl bv bk A0 c0 l0.length 0 0 (⟨#[]⟩ : ByteArray) _)).v Tryz.underlying32 rfl (by kernel_rfl)) rfl ?_
                    exact ⟨rsl_, ((stn_ : St w _ bl bv bk A0 c0 l0.length 0 0 (⟨#[]⟩ : ByteArray) _)).b⟩
                  · have e7q : decide (r1 < -10000) = false := decide_eq_false e7
                    rw [if_neg (by omega)] at h
                    by_cases e8 : r1 = 0
                    · have e8q : (r1 == 0) = true := beq_iff_eq.2 e8
                      rw [if_pos (Or.inl e8)] at h
                      simp only [Option.some.injEq, Prod.mk.injEq] at h
                      obtain ⟨rfl, rfl, rfl, rfl, rfl⟩ := h
                      go_wp2_with (first | go_step3 | (go_at_call 66; with_reducible refine (value_Integer.calls k _ _ l0 nu r1 r2 r3 _ ?g1 HC.out AI.out).mono ?_; (case g1 => exact St.C (stn_ : St w _ bl bv bk A0 c0 l0.length _ _ _ _) HR.out); rintro e w9 ⟨rfl, hb⟩; have n0_ := Aside0.mk (St.below (stn_ : St w _ bl bv bk A0 c0 l0.length _ _ _ _) hb); clear HX; have HX := n0_; clear n0_ hb; have hcl := HX.out.cl; have hc0 := HX.out.c0; have hc1 := HX.out.c1; have hc2 := HX.out.c2; have hck := HX.out.ck; obtain ⟨hz0, hz1, hz2, hzk⟩ := HX.out.f; obtain ⟨hn0, hn1, hn2, hn3, hn4, hn5⟩ := HX.out.ne))
                      (try (rw [Exit.noGoto_ret]; try dsimp only [Exit.inBlock, Exit.then]))
                      refine bodyPost_ret (results_ctt rfl _ _ bv 32 #[.int .i64 0, .int .i64 0, .string (⟨#[]⟩ : ByteArray)] (0, 0) _ rfl ((stn_ : St w _ bl bv bk A0 c0 l0.length 0 0 (⟨#[]⟩ : ByteArray) _)).v Tryz.underlying32 rfl (by kernel_rfl)) rfl ?_
                      exact ⟨rsl_, ((stn_ : St w _ bl bv bk A0 c0 l0.length 0 0 (⟨#[]⟩ : ByteArray) _)).b⟩
                    · have e8q : (r1 == 0) = false := beq_eq_false_iff_ne.2 e8
                      by_cases e9 : r1 < 0
                      · have e9q : decide (r1 < 0) = true := decide_eq_true e9
                        rw [if_neg (by omega), if_pos (by omega)] at h
                        simp only [Option.some.injEq, Prod.mk.injEq] at h
                        obtain ⟨rfl, rfl, rfl, rfl, rfl⟩ := h
                        go_wp2_with (first | go_step3 | (go_at_call 66; with_reducible refine (value_Integer.calls k _ _ l0 nu r1 r2 r3 _ ?g1 HC.out AI.out).mono ?_; (case g1 => exact St.C (stn_ : St w _ bl bv bk A0 c0 l0.length _ _ _ _) HR.out); rintro e w9 ⟨rfl, hb⟩; have n0_ := Aside0.mk (St.below (stn_ : St w _ bl bv bk A0 c0 l0.length _ _ _ _) hb); clear HX; have HX := n0_; clear n0_ hb; have hcl := HX.out.cl; have hc0 := HX.out.c0; have hc1 := HX.out.c1; have hc2 := HX.out.c2; have hck := HX.out.ck; obtain ⟨hz0, hz1, hz2, hzk⟩ := HX.out.f; obtain ⟨hn0, hn1, hn2, hn3, hn4, hn5⟩ := HX.out.ne))
                        refine at_ (fun w4 hw4 => ?_)
                        have HX4 : Aside0 (St w w4.drew bl bv bk A0 c0 l0.length 2 r1 nm kk) := ⟨St.drew (by rw [hw4]; exact stn_)⟩
                        clear hw4 HX hcl hc0 hc1 hc2 hck hz0 hz1 hz2 hzk
                        refine start_ (n := 5) (S := (fun w' => w'.cell? ⟨bv, 0, none⟩ = some (.int .i64 2) ∧ w'.cell? ⟨bv, 1, none⟩ = some (.int .i64 r1) ∧ w'.cell? ⟨bv, 2, none⟩ = some (.string nm) ∧ w'.cell? ⟨bk, 0, none⟩ = some (.int .i64 kk))) (ds := []) #[false, false, false, false, false] (by kernel_rfl) rfl rfl ⟨HX4.out.c0, HX4.out.c1, HX4.out.c2, HX4.out.ck⟩ (fun hHeld => ?_)
                        refine with_tabW Read.tab36 Read.bits36 (fun HT_ HW_ => ?_)
                        generalize w4.drew = w5 at HX4 hHeld ⊢
                        obtain ⟨hz0, hz1, hz2, hzk⟩ := HX4.out.f
                        refine tas_ 0 (some 140) #[true, false, false, false, false] rfl rfl HT_.out HW_.out hHeld ?_
                        refine tas_ 1 (some 141) #[true, true, false, false, false] rfl rfl HT_.out HW_.out hHeld ?_
                        have hc0 := HX4.out.c0
                        have hc1 := HX4.out.c1
                        have hc2 := HX4.out.c2
                        have HX6 := Aside0.mk (((HX4.out.setv0 2).setv1 r1).setv2 nm)
                        refine one_ (i := 2) (N := none) #[true, true, true, false, false] rfl rfl (one_of HT_.out (by kernel_rfl)) (by decide) (fun K hK => ?_)
                        refine skip_ (w1 := ?_) (by rfl) rfl ?_ ?_
                        rotate_left
                        ·go_simp
                         rfl
                        refine hK.out _ _ ⟨HX6.out.c0, HX6.out.c1, HX6.out.c2, HX6.out.ck⟩ (fun hHeld => ?_)
                        clear hK K
                        refine pus_ 3 (some 5) #[true, true, true, true, false] rfl rfl HT_.out ?_
                        refine pus_ 4 (some 6) #[true, true, true, true, true] rfl rfl HT_.out ?_
                        refine done_ (done_of HT_.out (by kernel_rfl)) ?_
                        go_wp2
                        (try (rw [Exit.noGoto_ret]; try dsimp only [Exit.inBlock, Exit.then]))
                        refine bodyPost_ret (results_ctt rfl _ _ bv 32 #[.int .i64 2, .int .i64 r1, .string nm] (0, 0) _ rfl HX6.out.v Tryz.underlying32 rfl (by kernel_rfl)) rfl ?_
                        exact ⟨rsl_, HX6.out.b⟩
                      · have e9q : decide (r1 < 0) = false := decide_eq_false e9
                        rw [if_neg (by omega), if_pos (by omega)] at h
                        simp only [Option.some.injEq, Prod.mk.injEq] at h
                        obtain ⟨rfl, rfl, rfl, rfl, rfl⟩ := h
                        go_wp2_with (first | go_step3 | (go_at_call 66; with_reducible refine (value_Integer.calls k _ _ l0 nu r1 r2 r3 _ ?g1 HC.out AI.out).mono ?_; (case g1 => exact St.C (stn_ : St w _ bl bv bk A0 c0 l0.length _ _ _ _) HR.out); rintro e w9 ⟨rfl, hb⟩; have n0_ := Aside0.mk (St.below (stn_ : St w _ bl bv bk A0 c0 l0.length _ _ _ _) hb); clear HX; have HX := n0_; clear n0_ hb; have hcl := HX.out.cl; have hc0 := HX.out.c0; have hc1 := HX.out.c1; have hc2 := HX.out.c2; have hck := HX.out.ck; obtain ⟨hz0, hz1, hz2, hzk⟩ := HX.out.f; obtain ⟨hn0, hn1, hn2, hn3, hn4, hn5⟩ := HX.out.ne))
                        refine at_ (fun w4 hw4 => ?_)
                        have HX4 : Aside0 (St w w4.drew bl bv bk A0 c0 l0.length 2 r1 nm kk) := ⟨St.drew (by rw [hw4]; exact stn_)⟩
                        clear hw4 HX hcl hc0 hc1 hc2 hck hz0 hz1 hz2 hzk
                        refine start_ (n := 5) (S := (fun w' => w'.cell? ⟨bv, 0, none⟩ = some (.int .i64 2) ∧ w'.cell? ⟨bv, 1, none⟩ = some (.int .i64 r1) ∧ w'.cell? ⟨bv, 2, none⟩ = some (.string nm) ∧ w'.cell? ⟨bk, 0, none⟩ = some (.int .i64 kk))) (ds := []) #[false, false, false, false, false] (by kernel_rfl) rfl rfl ⟨HX4.out.c0, HX4.out.c1, HX4.out.c2, HX4.out.ck⟩ (fun hHeld => ?_)
                        refine with_tabW Read.tab36 Read.bits36 (fun HT_ HW_ => ?_)
                        generalize w4.drew = w5 at HX4 hHeld ⊢
                        obtain ⟨hz0, hz1, hz2, hzk⟩ := HX4.out.f
                        refine tas_ 0 (some 140) #[true, false, false, false, false] rfl rfl HT_.out HW_.out hHeld ?_
                        refine tas_ 1 (some 141) #[true, true, false, false, false] rfl rfl HT_.out HW_.out hHeld ?_
                        have hc0 := HX4.out.c0
                        have hc1 := HX4.out.c1
                        have hc2 := HX4.out.c2
                        have HX6 := Aside0.mk (((HX4.out.setv0 2).setv1 r1).setv2 nm)
                        refine one_ (i := 2) (N := none) #[true, true, true, false, false] rfl rfl (one_of HT_.out (by kernel_rfl)) (by decide) (fun K hK => ?_)
                        refine skip_ (w1 := ?_) (by rfl) rfl ?_ ?_
                        rotate_left
                        ·go_simp
                         rfl
                        refine hK.out _ _ ⟨HX6.out.c0, HX6.out.c1, HX6.out.c2, HX6.out.ck⟩ (fun hHeld => ?_)
                        clear hK K
                        refine pus_ 3 (some 5) #[true, true, true, true, false] rfl rfl HT_.out ?_
                        refine pus_ 4 (some 6) #[true, true, true, true, true] rfl rfl HT_.out ?_
                        refine done_ (done_of HT_.out (by kernel_rfl)) ?_
                        go_wp2
                        (try (rw [Exit.noGoto_ret]; try dsimp only [Exit.inBlock, Exit.then]))
                        refine bodyPost_ret (results_ctt rfl _ _ bv 32 #[.int .i64 2, .int .i64 r1, .string nm] (0, 0) _ rfl HX6.out.v Tryz.underlying32 rfl (by kernel_rfl)) rfl ?_
                        exact ⟨rsl_, HX6.out.b⟩
end line_Read
end Go.Proofs.YtofdhdafabmhmaaGreatDoor.Giv
end
section
namespace Go.Proofs.YtofdhdafabmhmaaGreatDoor.PLt
open Go.RowKit Go.Proofs.YtofdhdafabmhmaaGreatDoorW.PrintWords Go.Proofs.YtofdhdafabmhmaaGreatDoorW.PrintLast Go.Proofs.YtofdhdafabmhmaaGreatDoorW.PrintMore
attribute [local go_sem] max2_int min2_int max_two min_two max_three min_three max_four min_four
open Go.Proofs.YtofdhdafabmhmaaGreatDoor.Opn Go.Proofs.YtofdhdafabmhmaaGreatDoor.Giv

/-! ### line_lines: function 68 -/
def line_lines.l0 : Nat → List (S62) → Int → List (S32) → Int → Option ((List (S32)) × Int × Int)
 | 0, _, _, _, _ => none
 | k + 1, x0, x2, x6, x7 => (line_Read.f k x0 x7).bind fun bt236 => (if bt236.2.2.2.2 = 0 then (if x6.length < 4398046511104 then ((some (x6 ++ [(⟨bt236.1, bt236.2.1, bt236.2.2.1⟩ : S32)] : List (S32))).bind fun y241 => (if (y241.length : Int) = x2 then (some (y241, bt236.2.2.2.1, 0)) else ((value_Sign.f x0 bt236.2.2.2.1 (⟨#[47]⟩ : ByteArray)).bind fun t244 => (if t244 = true then (line_lines.l0 k x0 x2 y241 (wrap64 (bt236.2.2.2.1 + 1))) else (some (y241, bt236.2.2.2.1, 0)))))) else (none)) else (some (([] : List (S32)), bt236.2.2.2.1, bt236.2.2.2.2)))
def line_lines.f (k : Nat) (l0 : List (S62)) (a1 : Int) (a2 : Int) : Option ((List (S32)) × Int × Int) := line_lines.l0 k l0 a2 ([] : List (S32)) a1
theorem line_lines.mono_l : ∀ k, (∀ y0 y1 y2 y3, LeO (line_lines.l0 k y0 y1 y2 y3) (line_lines.l0 (k + 1) y0 y1 y2 y3))
 | 0 => fun _ _ _ _ r h => by simp [line_lines.l0] at h
 | k + 1 => by
  have ih0 := line_lines.mono_l k
  ·intro y0 y1 y2 y3
   unfold line_lines.l0
   repeat' first
   | (with_reducible exact ih0 _ _ _ _)
   | (with_reducible exact line_Read.mono _ _ _)
   | (with_reducible exact LeO.refl _)
   | (with_reducible exact LeO.none _)
   | (with_reducible refine LeO.ite ?_ ?_)
   | (with_reducible refine LeO.bind ?_ (fun _ => ?_))
theorem line_lines.mono : ∀ a0 a1 a2 k, LeO (line_lines.f k a0 a1 a2) (line_lines.f (k + 1) a0 a1 a2) := by
 intro a0 a1 a2 k
 have ih0 := line_lines.mono_l k
 unfold line_lines.f
 repeat' first
   | (with_reducible exact ih0 _ _ _ _)
   | (with_reducible exact line_Read.mono _ _ _)
   | (with_reducible exact LeO.refl _)
   | (with_reducible exact LeO.none _)
   | (with_reducible refine LeO.ite ?_ ?_)
   | (with_reducible refine LeO.bind ?_ (fun _ => ?_))
set_option maxHeartbeats 8000000 in
set_option maxRecDepth 100000 in
theorem line_lines.calls (k : Nat) (A0 : Option Addr) (c0 : Nat) (l0 : List (S62)) (a1 : Int) (a2 : Int) (r1 : List (S32)) (r2 : Int) (r3 : Int) (w : World) (hr0 : Kd.C k62 w A0 l0.length l0) (hc0 : l0.length ≤ c0) (h : line_lines.f k l0 a1 a2 = some (r1, r2, r3)) :
  Calls Tryz.prog 68 #[.slice A0 l0.length c0, .int .i64 a1, .int .i64 a2] w fun e w' => ∃ v0_ : Value, e = .returned (.tuple #[v0_, .int .i64 r2, .int .i64 r3]) ∧ Kd.R k32 32 w' w.heap.size (fun _ => True) v0_ r1 ∧ Below w.heap.size w w' := by
 have hu32 := Tryz.underlying32
 have HR0 := Aside0.mk hr0
 have HC0 := Aside0.mk hc0
 clear hr0 hc0
 have HB := Aside0.mk (Below.refl w.heap.size w)
 have H : (line_lines.l0 k l0 a2 ([] : List (S32)) a1) = some (r1, r2, r3) := h
 clear h
 have H' := Aside0.mk H
 clear H
 go_enter Tryz.func68, Tryz.ntmps68
 go_wp2
 go_loopg [6, 7] k (fun kq v6 v7 w' => ∃ (x6_1 : List (S32)) (x7_1 : Int), v7 = .int .i64 x7_1 ∧ Aside0 (line_lines.l0 kq l0 a2 x6_1 x7_1 = some (r1, r2, r3)) ∧ Aside0 (kq ≤ k) ∧ Aside0 (Kd.R k32 32 w' w.heap.size (fun _ => True) v6 x6_1) ∧ Aside0 (Below w.heap.size w w'))
 case atStart => exact ⟨(([] : List (S32))), (a1), rfs_, H', ⟨Nat.le_refl _⟩, ⟨by first | exact Kd.R_nil _ _ _ _ _ | exact Kd.N_nil _ _ _ _ _ | exact Kd.V_nil _ _ _ _ _ | exact Kd.Q_nil _ _ _ _ _ | exact Kd.S_nil _ _ _ _ _⟩, ⟨bel_⟩⟩
 case round =>
  clear H'
  try clear p2
  obtain ⟨x6_1, x7_1, rfl, HA, HK1, HO_6, HB⟩ := hrel
  cases gk with
  | zero => exact absurd HA.out (by simp [line_lines.l0])
  | succ k1 =>
   have H := HA.out
   clear HA
   simp only [line_lines.l0] at H
   replace H := Option.bind_eq_some_iff.mp H
   obtain ⟨⟨t236, t237, t238, t239, t240⟩, A40, H⟩ := H
   try dsimp only at H
   have A4 := Aside0.mk A40
   clear A40
   by_cases c5 : t240 = 0
   ·rw [if_pos c5] at H
    have c5b0 : (t240 == 0) = true := beq_iff_eq.mpr c5
    have c5b1 : (t240 != 0) = false := bne_eq_false_iff_eq.mpr c5
    clear c5
    by_cases c6 : x6_1.length < 4398046511104
    ·rw [if_pos c6] at H
     have LMc6 := Aside0.mk c6
     clear c6
     obtain ⟨y241, hy241⟩ : ∃ y_ : List (S32), y_ = (x6_1 ++ [(⟨t236, t237, t238⟩ : S32)]) := ⟨_, rfl⟩
     replace H : (if (y241.length : Int) = a2 then (some (y241, t239, 0)) else ((value_Sign.f l0 t239 (⟨#[47]⟩ : ByteArray)).bind fun t244 => (if t244 = true then (line_lines.l0 k1 l0 a2 y241 (wrap64 (t239 + 1))) else (some (y241, t239, 0))))) = some (r1, r2, r3) := by first | (rw [hy241]; with_reducible exact H) | (have H2_ := (Option.bind_some _ _).symm.trans H; rw [hy241]; with_reducible exact H2_) | (have H2_ := (Option.bind_some _ _).symm.trans H; with_reducible exact H2_) | with_reducible exact H | (rw [hy241]; exact H) | exact H
     have Ny241 := Aside0.mk hy241
     clear hy241
     by_cases c7 : (y241.length : Int) = a2
     ·rw [if_pos c7] at H
      have c7b0 : ((y241.length : Int) == a2) = true := beq_iff_eq.mpr c7
      have c7b1 : ((y241.length : Int) != a2) = false := bne_eq_false_iff_eq.mpr c7
      clear c7
      simp only [Option.some.injEq, Prod.mk.injEq] at H
      obtain ⟨rfl, rfl, rfl⟩ := H
      go_wp2_with (first | ((with_reducible refine gate_dst (N := 9) rfl ?_); refine box_event ?hg (N := 9) ?hd (cs := #[.int .i64 0, .int .i64 0, .string (⟨#[]⟩ : ByteArray)]) (t := 32) ?hr ?_; (case hd => rfl); (case hg => rfl); (case hr => first | (go_simp; done) | (go_simp; rfl)); intro gb235 hg w8 hbox hb; have n0_ := Aside0.mk (Kd.R_below (Kd.R_elderB (by (with_reducible repeat (first | apply Kd.R_alloc | apply Kd.R_drewN | apply Kd.R_drew)); exact HO_6.out) gb235 (Nat.le_of_eq hg.symm)) hb); have n1_ := Aside0.mk (below_step bel_ hb); have n2_ := Aside0.mk (hbox); have n3_ := Aside0.mk ((bsz_ hg : w.heap.size ≤ gb235)); have n4_ := Aside0.mk ((bsz_ hg : w.heap.size ≤ gb235)); clear HO_6; clear HB; have HO_6 := n0_; have HB := n1_; have BK235 := n2_; have GW235 := n3_; have GE235 := n4_; clear n0_ n1_ n2_ n3_ n4_; clear hb hbox hg) | ((with_reducible refine gate_callee (f := 34) rfl ?_); refine goesL_ (some 16) rfl rfl Tryz.func34 (by kernel_rfl) rfl #[.slice A0 l0.length c0, .int .i64 x7_1] rfl goa_ ?_; (with_reducible refine (line_Read.calls k1 _ _ l0 x7_1 t236 t237 t238 t239 t240 _ ?side1 ?side2 A4.out).mono ?_); (case side1 => repeat (first | exact (Kd.C_below HR0.out HB.out) | (with_reducible refine Kd.C_alloc ?_ _) | (with_reducible refine Kd.C_drewN ?_ _) | (with_reducible refine Kd.C_drew ?_))); (case side2 => exact HC0.out); rintro e w9 ⟨rfl, hb⟩; refine ⟨_, rfl, ?_⟩; have n0_ := Aside0.mk (Kd.R_below (by (with_reducible repeat (first | apply Kd.R_alloc | apply Kd.R_drewN | apply Kd.R_drew)); exact HO_6.out) hb); have n1_ := blb_ BK235 hb; have n2_ := Aside0.mk (below_step bel_ hb); clear HO_6; clear BK235; clear HB; have HO_6 := n0_; have BK235 := n1_; have HB := n2_; clear n0_ n1_ n2_; clear hb; have hcz10_0 : w9.cell? ⟨gb235, 0, none⟩ = some (.int .i64 0) := (blk_cell BK235.out 0).trans rfl; have hcz10_1 : w9.cell? ⟨gb235, 1, none⟩ = some (.int .i64 0) := (blk_cell BK235.out 1).trans rfl; have hcz10_2 : w9.cell? ⟨gb235, 2, none⟩ = some (.string (⟨#[]⟩ : ByteArray)) := (blk_cell BK235.out 2).trans rfl; have hfz10_0 := blk_frozen BK235.out 0; have hfz10_1 := blk_frozen BK235.out 1; have hfz10_2 := blk_frozen BK235.out 2) | ((with_reducible refine gate_builtin (b := .append) (xs := #[.tmp 24, .tmp 26]) rfl ?_); at_builtin; refine Kd.R_append k32 (w0 := w) w.heap.size rfl (.tmp 24) (.tmp 26) 91 32 (.agg #[(.int .i64 0), (.int .i64 0), (.string ⟨#[]⟩)]) 32 rfl Tryz.underlying91 info32 rfl (by decide) (by omega) u6 x6_1 (⟨t236, t237, t238⟩ : S32) [.int .i64 t236, .int .i64 t237, .string t238] (fun k_ => k_ ≠ gb235) (fun _ => False) rfl (by first | (go_simp; done) | (go_simp; rfl)) ?aP (fun _ hk => hk.elim) ?aF ?aO ?aB ?aS ?aL ?_; (case aP => exact k32_mkM _ _ _ (⟨t236, t237, t238⟩ : S32)); (case aB => exact bel_); (case aF => exact (fun k_ hk => Kd.freshB (g := gb235) (o := .cells #[.int .i64 t236, .int .i64 t237, .string t238] 32 (0, 0)) (by (with_reducible repeat (first | refine blk_drewN ?_ _ | refine blk_drew ?_ | refine blk_alloc ?_ _)); refine blk_put (cs := #[.int .i64 t236, .int .i64 t237, .string (⟨#[]⟩ : ByteArray)]) ?_ 2 _ rfl; (with_reducible repeat (first | refine blk_drewN ?_ _ | refine blk_drew ?_ | refine blk_alloc ?_ _)); refine blk_put (cs := #[.int .i64 t236, .int .i64 0, .string (⟨#[]⟩ : ByteArray)]) ?_ 1 _ rfl; (with_reducible repeat (first | refine blk_drewN ?_ _ | refine blk_drew ?_ | refine blk_alloc ?_ _)); refine blk_put (cs := #[.int .i64 0, .int .i64 0, .string (⟨#[]⟩ : ByteArray)]) ?_ 0 _ rfl; (with_reducible repeat (first | refine blk_drewN ?_ _ | refine blk_drew ?_ | refine blk_alloc ?_ _)); exact BK235.out) k_ hk)); (case aO => exact (by (with_reducible repeat (first | apply Kd.R_alloc | apply Kd.R_drewN | apply Kd.R_drew)); exact Kd.R_mono (Kd.R_far (p := ⟨gb235, 2, none⟩) (Kd.R_far (p := ⟨gb235, 1, none⟩) (Kd.R_far (p := ⟨gb235, 0, none⟩) (Kd.R_mono HO_6.out (fun k_ hk => (⟨hk, hk.2⟩ : _ ∧ k_ ≠ gb235))) (fun _ hk => hk.2) (.int .i64 t236)) (fun _ hk => hk.2) (.int .i64 t237)) (fun _ hk => hk.2) (.string t238)) (fun _ hk => hk.1.2))); (case aS => exact (below_size bel_)); (case aL => have := LMc6.out; omega); intro v242 w11 ho hb hg hat; rw [← Ny241.out] at ho; have n0_ := Aside0.mk (blk_grown (g := gb235) (o := .cells #[.int .i64 t236, .int .i64 t237, .string t238] 32 (0, 0)) (by (with_reducible repeat (first | refine blk_drewN ?_ _ | refine blk_drew ?_ | refine blk_alloc ?_ _)); refine blk_put (cs := #[.int .i64 t236, .int .i64 t237, .string (⟨#[]⟩ : ByteArray)]) ?_ 2 _ rfl; (with_reducible repeat (first | refine blk_drewN ?_ _ | refine blk_drew ?_ | refine blk_alloc ?_ _)); refine blk_put (cs := #[.int .i64 t236, .int .i64 0, .string (⟨#[]⟩ : ByteArray)]) ?_ 1 _ rfl; (with_reducible repeat (first | refine blk_drewN ?_ _ | refine blk_drew ?_ | refine blk_alloc ?_ _)); refine blk_put (cs := #[.int .i64 0, .int .i64 0, .string (⟨#[]⟩ : ByteArray)]) ?_ 0 _ rfl; (with_reducible repeat (first | refine blk_drewN ?_ _ | refine blk_drew ?_ | refine blk_alloc ?_ _)); exact BK235.out) hg (Kd.R_away HO_6.out (fun _ hk => hk.2))); have n1_ := Aside0.mk (hb); have n2_ := Aside0.mk (ho); clear BK235; clear HB; clear HO_6; have BK235 := n0_; have HB := n1_; have HO243 := n2_; clear n0_ n1_ n2_; clear ho hb hg hat; obtain ⟨Ao12, co12, eo12⟩ := Kd.R_slice HO243.out; subst eo12))
      go_ret3
      exact ⟨_, rsl_, by (with_reducible repeat (first | apply Kd.R_alloc | apply Kd.R_drewN | apply Kd.R_drew)); exact Kd.R_mono HO243.out (fun _ hk => trivial), bel_⟩
     ·rw [if_neg c7] at H
      have c7b0 : ((y241.length : Int) == a2) = false := beq_eq_false_iff_ne.mpr c7
      have c7b1 : ((y241.length : Int) != a2) = true := bne_iff_ne.mpr c7
      replace H := Option.bind_eq_some_iff.mp H
      obtain ⟨t244, A130, H⟩ := H
      try dsimp only at H
      have A13 := Aside0.mk A130
      clear A130
      by_cases c14 : t244 = true
      ·subst c14
       rw [if_pos rfl] at H
       have H' := Aside0.mk H
       clear H
       go_wp2_with (first | ((with_reducible refine gate_dst (N := 9) rfl ?_); refine box_event ?hg (N := 9) ?hd (cs := #[.int .i64 0, .int .i64 0, .string (⟨#[]⟩ : ByteArray)]) (t := 32) ?hr ?_; (case hd => rfl); (case hg => rfl); (case hr => first | (go_simp; done) | (go_simp; rfl)); intro gb235 hg w15 hbox hb; have n0_ := Aside0.mk (Kd.R_below (Kd.R_elderB (by (with_reducible repeat (first | apply Kd.R_alloc | apply Kd.R_drewN | apply Kd.R_drew)); exact HO_6.out) gb235 (Nat.le_of_eq hg.symm)) hb); have n1_ := Aside0.mk (below_step bel_ hb); have n2_ := Aside0.mk (hbox); have n3_ := Aside0.mk ((bsz_ hg : w.heap.size ≤ gb235)); have n4_ := Aside0.mk ((bsz_ hg : w.heap.size ≤ gb235)); clear HO_6; clear HB; have HO_6 := n0_; have HB := n1_; have BK235 := n2_; have GW235 := n3_; have GE235 := n4_; clear n0_ n1_ n2_ n3_ n4_; clear hb hbox hg) | ((with_reducible refine gate_callee (f := 34) rfl ?_); refine goesL_ (some 16) rfl rfl Tryz.func34 (by kernel_rfl) rfl #[.slice A0 l0.length c0, .int .i64 x7_1] rfl goa_ ?_; (with_reducible refine (line_Read.calls k1 _ _ l0 x7_1 t236 t237 t238 t239 t240 _ ?side1 ?side2 A4.out).mono ?_); (case side1 => repeat (first | exact (Kd.C_below HR0.out HB.out) | (with_reducible refine Kd.C_alloc ?_ _) | (with_reducible refine Kd.C_drewN ?_ _) | (with_reducible refine Kd.C_drew ?_))); (case side2 => exact HC0.out); rintro e w16 ⟨rfl, hb⟩; refine ⟨_, rfl, ?_⟩; have n0_ := Aside0.mk (Kd.R_below (by (with_reducible repeat (first | apply Kd.R_alloc | apply Kd.R_drewN | apply Kd.R_drew)); exact HO_6.out) hb); have n1_ := blb_ BK235 hb; have n2_ := Aside0.mk (below_step bel_ hb); clear HO_6; clear BK235; clear HB; have HO_6 := n0_; have BK235 := n1_; have HB := n2_; clear n0_ n1_ n2_; clear hb; have hcz17_0 : w16.cell? ⟨gb235, 0, none⟩ = some (.int .i64 0) := (blk_cell BK235.out 0).trans rfl; have hcz17_1 : w16.cell? ⟨gb235, 1, none⟩ = some (.int .i64 0) := (blk_cell BK235.out 1).trans rfl; have hcz17_2 : w16.cell? ⟨gb235, 2, none⟩ = some (.string (⟨#[]⟩ : ByteArray)) := (blk_cell BK235.out 2).trans rfl; have hfz17_0 := blk_frozen BK235.out 0; have hfz17_1 := blk_frozen BK235.out 1; have hfz17_2 := blk_frozen BK235.out 2) | ((with_reducible refine gate_builtin (b := .append) (xs := #[.tmp 24, .tmp 26]) rfl ?_); at_builtin; refine Kd.R_append k32 (w0 := w) w.heap.size rfl (.tmp 24) (.tmp 26) 91 32 (.agg #[(.int .i64 0), (.int .i64 0), (.string ⟨#[]⟩)]) 32 rfl Tryz.underlying91 info32 rfl (by decide) (by omega) u6 x6_1 (⟨t236, t237, t238⟩ : S32) [.int .i64 t236, .int .i64 t237, .string t238] (fun k_ => k_ ≠ gb235) (fun _ => False) rfl (by first | (go_simp; done) | (go_simp; rfl)) ?aP (fun _ hk => hk.elim) ?aF ?aO ?aB ?aS ?aL ?_; (case aP => exact k32_mkM _ _ _ (⟨t236, t237, t238⟩ : S32)); (case aB => exact bel_); (case aF => exact (fun k_ hk => Kd.freshB (g := gb235) (o := .cells #[.int .i64 t236, .int .i64 t237, .string t238] 32 (0, 0)) (by (with_reducible repeat (first | refine blk_drewN ?_ _ | refine blk_drew ?_ | refine blk_alloc ?_ _)); refine blk_put (cs := #[.int .i64 t236, .int .i64 t237, .string (⟨#[]⟩ : ByteArray)]) ?_ 2 _ rfl; (with_reducible repeat (first | refine blk_drewN ?_ _ | refine blk_drew ?_ | refine blk_alloc ?_ _)); refine blk_put (cs := #[.int .i64 t236, .int .i64 0, .string (⟨#[]⟩ : ByteArray)]) ?_ 1 _ rfl; (with_reducible repeat (first | refine blk_drewN ?_ _ | refine blk_drew ?_ | refine blk_alloc ?_ _)); refine blk_put (cs := #[.int .i64 0, .int .i64 0, .string (⟨#[]⟩ : ByteArray)]) ?_ 0 _ rfl; (with_reducible repeat (first | refine blk_drewN ?_ _ | refine blk_drew ?_ | refine blk_alloc ?_ _)); exact BK235.out) k_ hk)); (case aO => exact (by (with_reducible repeat (first | apply Kd.R_alloc | apply Kd.R_drewN | apply Kd.R_drew)); exact Kd.R_mono (Kd.R_far (p := ⟨gb235, 2, none⟩) (Kd.R_far (p := ⟨gb235, 1, none⟩) (Kd.R_far (p := ⟨gb235, 0, none⟩) (Kd.R_mono HO_6.out (fun k_ hk => (⟨hk, hk.2⟩ : _ ∧ k_ ≠ gb235))) (fun _ hk => hk.2) (.int .i64 t236)) (fun _ hk => hk.2) (.int .i64 t237)) (fun _ hk => hk.2) (.string t238)) (fun _ hk => hk.1.2))); (case aS => exact (below_size bel_)); (case aL => have := LMc6.out; omega); intro v242 w18 ho hb hg hat; rw [← Ny241.out] at ho; have n0_ := Aside0.mk (blk_grown (g := gb235) (o := .cells #[.int .i64 t236, .int .i64 t237, .string t238] 32 (0, 0)) (by (with_reducible repeat (first | refine blk_drewN ?_ _ | refine blk_drew ?_ | refine blk_alloc ?_ _)); refine blk_put (cs := #[.int .i64 t236, .int .i64 t237, .string (⟨#[]⟩ : ByteArray)]) ?_ 2 _ rfl; (with_reducible repeat (first | refine blk_drewN ?_ _ | refine blk_drew ?_ | refine blk_alloc ?_ _)); refine blk_put (cs := #[.int .i64 t236, .int .i64 0, .string (⟨#[]⟩ : ByteArray)]) ?_ 1 _ rfl; (with_reducible repeat (first | refine blk_drewN ?_ _ | refine blk_drew ?_ | refine blk_alloc ?_ _)); refine blk_put (cs := #[.int .i64 0, .int .i64 0, .string (⟨#[]⟩ : ByteArray)]) ?_ 0 _ rfl; (with_reducible repeat (first | refine blk_drewN ?_ _ | refine blk_drew ?_ | refine blk_alloc ?_ _)); exact BK235.out) hg (Kd.R_away HO_6.out (fun _ hk => hk.2))); have n1_ := Aside0.mk (hb); have n2_ := Aside0.mk (ho); clear BK235; clear HB; clear HO_6; have BK235 := n0_; have HB := n1_; have HO243 := n2_; clear n0_ n1_ n2_; clear ho hb hg hat; obtain ⟨Ao19, co19, eo19⟩ := Kd.R_slice HO243.out; subst eo19) | (go_at_call 93; (with_reducible refine (value_Sign.calls _ _ l0 t239 (⟨#[47]⟩ : ByteArray) true _ ?side1 ?side2 A13.out).mono ?_); (case side1 => repeat (first | exact (Kd.C_below HR0.out HB.out) | (with_reducible refine Kd.C_alloc ?_ _) | (with_reducible refine Kd.C_drewN ?_ _) | (with_reducible refine Kd.C_drew ?_))); (case side2 => exact HC0.out); rintro e w20 ⟨rfl, hb⟩; have n0_ := Aside0.mk (Kd.R_below (by (with_reducible repeat (first | apply Kd.R_alloc | apply Kd.R_drewN | apply Kd.R_drew)); exact HO243.out) hb); have n1_ := blb_ BK235 hb; have n2_ := Aside0.mk (below_step bel_ hb); clear HO243; clear BK235; clear HB; have HO243 := n0_; have BK235 := n1_; have HB := n2_; clear n0_ n1_ n2_; clear hb))
       go_roundg k1
       case measure => have := HK1.out; omega
       case rel => exact ⟨(y241), (wrap64 (t239 + 1)), rfs_, H', ⟨by have := HK1.out; omega⟩, ⟨by (with_reducible repeat (first | apply Kd.R_alloc | apply Kd.R_drewN | apply Kd.R_drew)); exact Kd.R_mono HO243.out (fun _ hk => trivial)⟩, ⟨bel_⟩⟩
      ·replace c14 := Bool.eq_false_iff.mpr c14
       subst c14
       rw [if_neg (show ¬ (false = true) by decide)] at H
       simp only [Option.some.injEq, Prod.mk.injEq] at H
       obtain ⟨rfl, rfl, rfl⟩ := H
       go_wp2_with (first | ((with_reducible refine gate_dst (N := 9) rfl ?_); refine box_event ?hg (N := 9) ?hd (cs := #[.int .i64 0, .int .i64 0, .string (⟨#[]⟩ : ByteArray)]) (t := 32) ?hr ?_; (case hd => rfl); (case hg => rfl); (case hr => first | (go_simp; done) | (go_simp; rfl)); intro gb235 hg w21 hbox hb; have n0_ := Aside0.mk (Kd.R_below (Kd.R_elderB (by (with_reducible repeat (first | apply Kd.R_alloc | apply Kd.R_drewN | apply Kd.R_drew)); exact HO_6.out) gb235 (Nat.le_of_eq hg.symm)) hb); have n1_ := Aside0.mk (below_step bel_ hb); have n2_ := Aside0.mk (hbox); have n3_ := Aside0.mk ((bsz_ hg : w.heap.size ≤ gb235)); have n4_ := Aside0.mk ((bsz_ hg : w.heap.size ≤ gb235)); clear HO_6; clear HB; have HO_6 := n0_; have HB := n1_; have BK235 := n2_; have GW235 := n3_; have GE235 := n4_; clear n0_ n1_ n2_ n3_ n4_; clear hb hbox hg) | ((with_reducible refine gate_callee (f := 34) rfl ?_); refine goesL_ (some 16) rfl rfl Tryz.func34 (by kernel_rfl) rfl #[.slice A0 l0.length c0, .int .i64 x7_1] rfl goa_ ?_; (with_reducible refine (line_Read.calls k1 _ _ l0 x7_1 t236 t237 t238 t239 t240 _ ?side1 ?side2 A4.out).mono ?_); (case side1 => repeat (first | exact (Kd.C_below HR0.out HB.out) | (with_reducible refine Kd.C_alloc ?_ _) | (with_reducible refine Kd.C_drewN ?_ _) | (with_reducible refine Kd.C_drew ?_))); (case side2 => exact HC0.out); rintro e w22 ⟨rfl, hb⟩; refine ⟨_, rfl, ?_⟩; have n0_ := Aside0.mk (Kd.R_below (by (with_reducible repeat (first | apply Kd.R_alloc | apply Kd.R_drewN | apply Kd.R_drew)); exact HO_6.out) hb); have n1_ := blb_ BK235 hb; have n2_ := Aside0.mk (below_step bel_ hb); clear HO_6; clear BK235; clear HB; have HO_6 := n0_; have BK235 := n1_; have HB := n2_; clear n0_ n1_ n2_; clear hb; have hcz23_0 : w22.cell? ⟨gb235, 0, none⟩ = some (.int .i64 0) := (blk_cell BK235.out 0).trans rfl; have hcz23_1 : w22.cell? ⟨gb235, 1, none⟩ = some (.int .i64 0) := (blk_cell BK235.out 1).trans rfl; have hcz23_2 : w22.cell? ⟨gb235, 2, none⟩ = some (.string (⟨#[]⟩ : ByteArray)) := (blk_cell BK235.out 2).trans rfl; have hfz23_0 := blk_frozen BK235.out 0; have hfz23_1 := blk_frozen BK235.out 1; have hfz23_2 := blk_frozen BK235.out 2) | ((with_reducible refine gate_builtin (b := .append) (xs := #[.tmp 24, .tmp 26]) rfl ?_); at_builtin; refine Kd.R_append k32 (w0 := w) w.heap.size rfl (.tmp 24) (.tmp 26) 91 32 (.agg #[(.int .i64 0), (.int .i64 0), (.string ⟨#[]⟩)]) 32 rfl Tryz.underlying91 info32 rfl (by decide) (by omega) u6 x6_1 (⟨t236, t237, t238⟩ : S32) [.int .i64 t236, .int .i64 t237, .string t238] (fun k_ => k_ ≠ gb235) (fun _ => False) rfl (by first | (go_simp; done) | (go_simp; rfl)) ?aP (fun _ hk => hk.elim) ?aF ?aO ?aB ?aS ?aL ?_; (case aP => exact k32_mkM _ _ _ (⟨t236, t237, t238⟩ : S32)); (case aB => exact bel_); (case aF => exact (fun k_ hk => Kd.freshB (g := gb235) (o := .cells #[.int .i64 t236, .int .i64 t237, .string t238] 32 (0, 0)) (by (with_reducible repeat (first | refine blk_drewN ?_ _ | refine blk_drew ?_ | refine blk_alloc ?_ _)); refine blk_put (cs := #[.int .i64 t236, .int .i64 t237, .string (⟨#[]⟩ : ByteArray)]) ?_ 2 _ rfl; (with_reducible repeat (first | refine blk_drewN ?_ _ | refine blk_drew ?_ | refine blk_alloc ?_ _)); refine blk_put (cs := #[.int .i64 t236, .int .i64 0, .string (⟨#[]⟩ : ByteArray)]) ?_ 1 _ rfl; (with_reducible repeat (first | refine blk_drewN ?_ _ | refine blk_drew ?_ | refine blk_alloc ?_ _)); refine blk_put (cs := #[.int .i64 0, .int .i64 0, .string (⟨#[]⟩ : ByteArray)]) ?_ 0 _ rfl; (with_reducible repeat (first | refine blk_drewN ?_ _ | refine blk_drew ?_ | refine blk_alloc ?_ _)); exact BK235.out) k_ hk)); (case aO => exact (by (with_reducible repeat (first | apply Kd.R_alloc | apply Kd.R_drewN | apply Kd.R_drew)); exact Kd.R_mono (Kd.R_far (p := ⟨gb235, 2, none⟩) (Kd.R_far (p := ⟨gb235, 1, none⟩) (Kd.R_far (p := ⟨gb235, 0, none⟩) (Kd.R_mono HO_6.out (fun k_ hk => (⟨hk, hk.2⟩ : _ ∧ k_ ≠ gb235))) (fun _ hk => hk.2) (.int .i64 t236)) (fun _ hk => hk.2) (.int .i64 t237)) (fun _ hk => hk.2) (.string t238)) (fun _ hk => hk.1.2))); (case aS => exact (below_size bel_)); (case aL => have := LMc6.out; omega); intro v242 w24 ho hb hg hat; rw [← Ny241.out] at ho; have n0_ := Aside0.mk (blk_grown (g := gb235) (o := .cells #[.int .i64 t236, .int .i64 t237, .string t238] 32 (0, 0)) (by (with_reducible repeat (first | refine blk_drewN ?_ _ | refine blk_drew ?_ | refine blk_alloc ?_ _)); refine blk_put (cs := #[.int .i64 t236, .int .i64 t237, .string (⟨#[]⟩ : ByteArray)]) ?_ 2 _ rfl; (with_reducible repeat (first | refine blk_drewN ?_ _ | refine blk_drew ?_ | refine blk_alloc ?_ _)); refine blk_put (cs := #[.int .i64 t236, .int .i64 0, .string (⟨#[]⟩ : ByteArray)]) ?_ 1 _ rfl; (with_reducible repeat (first | refine blk_drewN ?_ _ | refine blk_drew ?_ | refine blk_alloc ?_ _)); refine blk_put (cs := #[.int .i64 0, .int .i64 0, .string (⟨#[]⟩ : ByteArray)]) ?_ 0 _ rfl; (with_reducible repeat (first | refine blk_drewN ?_ _ | refine blk_drew ?_ | refine blk_alloc ?_ _)); exact BK235.out) hg (Kd.R_away HO_6.out (fun _ hk => hk.2))); have n1_ := Aside0.mk (hb); have n2_ := Aside0.mk (ho); clear BK235; clear HB; clear HO_6; have BK235 := n0_; have HB := n1_; have HO243 := n2_; clear n0_ n1_ n2_; clear ho hb hg hat; obtain ⟨Ao25, co25, eo25⟩ := Kd.R_slice HO243.out; subst eo25) | (go_at_call 93; (with_reducible refine (value_Sign.calls _ _ l0 t239 (⟨#[47]⟩ : ByteArray) false _ ?side1 ?side2 A13.out).mono ?_); (case side1 => repeat (first | exact (Kd.C_below HR0.out HB.out) | (with_reducible refine Kd.C_alloc ?_ _) | (with_reducible refine Kd.C_drewN ?_ _) | (with_reducible refine Kd.C_drew ?_))); (case side2 => exact HC0.out); rintro e w26 ⟨rfl, hb⟩; have n0_ := Aside0.mk (Kd.R_below (by (with_reducible repeat (first | apply Kd.R_alloc | apply Kd.R_drewN | apply Kd.R_drew)); exact HO243.out) hb); have n1_ := blb_ BK235 hb; have n2_ := Aside0.mk (below_step bel_ hb); clear HO243; clear BK235; clear HB; have HO243 := n0_; have BK235 := n1_; have HB := n2_; clear n0_ n1_ n2_; clear hb))
       go_ret3
       exact ⟨_, rsl_, by (with_reducible repeat (first | apply Kd.R_alloc | apply Kd.R_drewN | apply Kd.R_drew)); exact Kd.R_mono HO243.out (fun _ hk => trivial), bel_⟩
    ·rw [if_neg c6] at H
     exact absurd H (by simp)
   ·rw [if_neg c5] at H
    have c5b0 : (t240 == 0) = false := beq_eq_false_iff_ne.mpr c5
    have c5b1 : (t240 != 0) = true := bne_iff_ne.mpr c5
    simp only [Option.some.injEq, Prod.mk.injEq] at H
    obtain ⟨rfl, rfl, rfl⟩ := H
    go_wp2_with (first | ((with_reducible refine gate_dst (N := 9) rfl ?_); refine box_event ?hg (N := 9) ?hd (cs := #[.int .i64 0, .int .i64 0, .string (⟨#[]⟩ : ByteArray)]) (t := 32) ?hr ?_; (case hd => rfl); (case hg => rfl); (case hr => first | (go_simp; done) | (go_simp; rfl)); intro gb235 hg w27 hbox hb; have n0_ := Aside0.mk (Kd.R_below (Kd.R_elderB (by (with_reducible repeat (first | apply Kd.R_alloc | apply Kd.R_drewN | apply Kd.R_drew)); exact HO_6.out) gb235 (Nat.le_of_eq hg.symm)) hb); have n1_ := Aside0.mk (below_step bel_ hb); have n2_ := Aside0.mk (hbox); have n3_ := Aside0.mk ((bsz_ hg : w.heap.size ≤ gb235)); have n4_ := Aside0.mk ((bsz_ hg : w.heap.size ≤ gb235)); clear HO_6; clear HB; have HO_6 := n0_; have HB := n1_; have BK235 := n2_; have GW235 := n3_; have GE235 := n4_; clear n0_ n1_ n2_ n3_ n4_; clear hb hbox hg) | ((with_reducible refine gate_callee (f := 34) rfl ?_); refine goesL_ (some 16) rfl rfl Tryz.func34 (by kernel_rfl) rfl #[.slice A0 l0.length c0, .int .i64 x7_1] rfl goa_ ?_; (with_reducible refine (line_Read.calls k1 _ _ l0 x7_1 t236 t237 t238 t239 t240 _ ?side1 ?side2 A4.out).mono ?_); (case side1 => repeat (first | exact (Kd.C_below HR0.out HB.out) | (with_reducible refine Kd.C_alloc ?_ _) | (with_reducible refine Kd.C_drewN ?_ _) | (with_reducible refine Kd.C_drew ?_))); (case side2 => exact HC0.out); rintro e w28 ⟨rfl, hb⟩; refine ⟨_, rfl, ?_⟩; have n0_ := Aside0.mk (Kd.R_below (by (with_reducible repeat (first | apply Kd.R_alloc | apply Kd.R_drewN | apply Kd.R_drew)); exact HO_6.out) hb); have n1_ := blb_ BK235 hb; have n2_ := Aside0.mk (below_step bel_ hb); clear HO_6; clear BK235; clear HB; have HO_6 := n0_; have BK235 := n1_; have HB := n2_; clear n0_ n1_ n2_; clear hb; have hcz29_0 : w28.cell? ⟨gb235, 0, none⟩ = some (.int .i64 0) := (blk_cell BK235.out 0).trans rfl; have hcz29_1 : w28.cell? ⟨gb235, 1, none⟩ = some (.int .i64 0) := (blk_cell BK235.out 1).trans rfl; have hcz29_2 : w28.cell? ⟨gb235, 2, none⟩ = some (.string (⟨#[]⟩ : ByteArray)) := (blk_cell BK235.out 2).trans rfl; have hfz29_0 := blk_frozen BK235.out 0; have hfz29_1 := blk_frozen BK235.out 1; have hfz29_2 := blk_frozen BK235.out 2))
    go_ret3
    exact ⟨_, rsl_, by first | exact Kd.R_nil _ _ _ _ _ | exact Kd.N_nil _ _ _ _ _ | exact Kd.V_nil _ _ _ _ _ | exact Kd.Q_nil _ _ _ _ _ | exact Kd.S_nil _ _ _ _ _, bel_⟩

end Go.Proofs.YtofdhdafabmhmaaGreatDoor.PLt
end
section
namespace Go.Proofs.YtofdhdafabmhmaaGreatDoor.Giv
open Go.RowKit Go.Proofs.YtofdhdafabmhmaaGreatDoorW.PrintWords Go.Proofs.YtofdhdafabmhmaaGreatDoorW.PrintLast Go.Proofs.YtofdhdafabmhmaaGreatDoorW.PrintMore Go.Proofs.YtofdhdafabmhmaaGreatDoor.PLt
open Go.Proofs.YtofdhdafabmhmaaGreatDoor.Opn Go.BigFrame
def line_Pair.more (x : List S32) : Option (List S32) := if x.length = 1 then (line_other.f (rd_T32 x 0).f0 (rd_T32 x 0).f1 (rd_T32 x 0).f2).bind fun t => some (x ++ [⟨t.1, t.2.1, t.2.2⟩]) else some x
def line_Pair.f (k : Nat) (l0 : List S62) (a1 : Int) : Option (Int × Int × ByteArray × Int × Int × ByteArray × Int × Int) :=
  (line_lines.f k l0 a1 2).bind fun r => if r.2.2 = 0 then (line_Pair.more r.1).bind fun x => if x.length = 2 then some ((rd_T32 x 0).f0, (rd_T32 x 0).f1, (rd_T32 x 0).f2, (rd_T32 x 1).f0, (rd_T32 x 1).f1, (rd_T32 x 1).f2, r.2.1, 0) else none
    else some (0, 0, ⟨#[]⟩, 0, 0, ⟨#[]⟩, r.2.1, r.2.2)
theorem line_Pair.mono : ∀ l0 a1 k, LeO (line_Pair.f k l0 a1) (line_Pair.f (k + 1) l0 a1) := by
  intro l0 a1 k
  unfold line_Pair.f
  exact LeO.bind (line_lines.mono _ _ _ _) (fun r => LeO.refl _)
namespace line_Pair
structure Sp (w w1 : World) (b4 b5 : Nat) (x0 x1 : Int) (x2 : ByteArray) (y0 y1 : Int) (y2 : ByteArray) : Prop where
  s : w1.heap[b4]? = some (.cells #[.int .i64 x0, .int .i64 x1, .string x2] 32 (0, 0))
  e : w1.heap[b5]? = some (.cells #[.int .i64 y0, .int .i64 y1, .string y2] 32 (0, 0))
  b : Below w.heap.size w w1
  o0 : w.heap.size ≤ b4
  o1 : b4 < b5
section
variable {w w1 w2 : World} {b4 b5 : Nat} {x0 x1 y0 y1 : Int} {x2 y2 : ByteArray}
theorem Sp.below (h : Sp w w1 b4 b5 x0 x1 x2 y0 y1 y2) (hb : Below w1.heap.size w1 w2) : Sp w w2 b4 b5 x0 x1 x2 y0 y1 y2 := ⟨blk_below h.s hb, blk_below h.e hb, below_step h.b hb, h.o0, h.o1⟩
theorem Sp.drewN (h : Sp w w1 b4 b5 x0 x1 x2 y0 y1 y2) (i : Nat) : Sp w (w1.drewN i) b4 b5 x0 x1 x2 y0 y1 y2 := h.below (pw_below_drewN (Below.refl _ _) i)
theorem Sp.drew (h : Sp w w1 b4 b5 x0 x1 x2 y0 y1 y2) : Sp w w1.drew b4 b5 x0 x1 x2 y0 y1 y2 := h.below (below_drew (Below.refl _ _))
theorem Sp.alloc (h : Sp w w1 b4 b5 x0 x1 x2 y0 y1 y2) (o : Obj) : Sp w (w1.alloc o) b4 b5 x0 x1 x2 y0 y1 y2 := h.below (below_alloc (Below.refl _ _) _)
theorem Sp.grown (h : Sp w w1 b4 b5 x0 x1 x2 y0 y1 y2) {row : Option Nat} (hg : w1.grownBy w2 row) (n0 : some b4 ≠ row) (n1 : some b5 ≠ row) (hb : Below w.heap.size w w2) : Sp w w2 b4 b5 x0 x1 x2 y0 y1 y2 := ⟨blk_grown h.s hg n0, blk_grown h.e hg n1, hb, h.o0, h.o1⟩
theorem Sp.sets (h : Sp w w1 b4 b5 x0 x1 x2 y0 y1 y2) (u0 u1 : Int) (u2 : ByteArray) : Sp w (((w1.setCell ⟨b4, 0, none⟩ (.int .i64 u0)).setCell ⟨b4, 1, none⟩ (.int .i64 u1)).setCell ⟨b4, 2, none⟩ (.string u2)) b4 b5 u0 u1 u2 y0 y1 y2 := by
  have n : b5 ≠ b4 := by have := h.o1; omega
  exact ⟨blk_put (blk_put (blk_put h.s 0 _ rfl) 1 _ rfl) 2 _ rfl, blk_far (blk_far (blk_far h.e n _) n _) n _, below_set (below_set (below_set h.b h.o0) h.o0) h.o0, h.o0, h.o1⟩
theorem Sp.sete (h : Sp w w1 b4 b5 x0 x1 x2 y0 y1 y2) (u0 u1 : Int) (u2 : ByteArray) : Sp w (((w1.setCell ⟨b5, 0, none⟩ (.int .i64 u0)).setCell ⟨b5, 1, none⟩ (.int .i64 u1)).setCell ⟨b5, 2, none⟩ (.string u2)) b4 b5 x0 x1 x2 u0 u1 u2 := by
  have n : b4 ≠ b5 := by have := h.o1; omega
  have m : w.heap.size ≤ b5 := by have := h.o1; have := h.o0; omega
  exact ⟨blk_far (blk_far (blk_far h.s n _) n _) n _, blk_put (blk_put (blk_put h.e 0 _ rfl) 1 _ rfl) 2 _ rfl, below_set (below_set (below_set h.b m) m) m, h.o0, h.o1⟩
theorem Sp.c (h : Sp w w1 b4 b5 x0 x1 x2 y0 y1 y2) : w1.cell? ⟨b4, 0, none⟩ = some (.int .i64 x0) ∧ w1.cell? ⟨b4, 1, none⟩ = some (.int .i64 x1) ∧ w1.cell? ⟨b4, 2, none⟩ = some (.string x2) ∧ w1.cell? ⟨b5, 0, none⟩ = some (.int .i64 y0) ∧ w1.cell? ⟨b5, 1, none⟩ = some (.int .i64 y1) ∧ w1.cell? ⟨b5, 2, none⟩ = some (.string y2) :=
  ⟨(blk_cell h.s 0).trans rfl, (blk_cell h.s 1).trans rfl, (blk_cell h.s 2).trans rfl, (blk_cell h.e 0).trans rfl, (blk_cell h.e 1).trans rfl, (blk_cell h.e 2).trans rfl⟩
theorem Sp.f (h : Sp w w1 b4 b5 x0 x1 x2 y0 y1 y2) : w1.frozen? ⟨b4, 0, none⟩ = false ∧ w1.frozen? ⟨b4, 1, none⟩ = false ∧ w1.frozen? ⟨b4, 2, none⟩ = false ∧ w1.frozen? ⟨b5, 0, none⟩ = false ∧ w1.frozen? ⟨b5, 1, none⟩ = false ∧ w1.frozen? ⟨b5, 2, none⟩ = false :=
  ⟨blk_frozen h.s 0, blk_frozen h.s 1, blk_frozen h.s 2, blk_frozen h.e 0, blk_frozen h.e 1, blk_frozen h.e 2⟩
theorem Sp.ne (h : Sp w w1 b4 b5 x0 x1 x2 y0 y1 y2) : b4 ≠ b5 ∧ b5 ≠ b4 := by have := h.o1; omega
/-- A row of the call's own, but for these two blocks. -/
def Row (w w1 : World) (b4 b5 : Nat) (v : Value) (x : List S32) : Prop := Kd.R k32 32 w1 w.heap.size (fun k => k ≠ b4 ∧ k ≠ b5) v x
theorem Row.sets {v : Value} {x : List S32} (h : Row w w1 b4 b5 v x) (u0 u1 : Int) (u2 : ByteArray) : Row w (((w1.setCell ⟨b4, 0, none⟩ (.int .i64 u0)).setCell ⟨b4, 1, none⟩ (.int .i64 u1)).setCell ⟨b4, 2, none⟩ (.string u2)) b4 b5 v x :=
  Kd.R_far (Kd.R_far (Kd.R_far h (fun _ hk => hk.1) _) (fun _ hk => hk.1) _) (fun _ hk => hk.1) _
theorem Row.sete {v : Value} {x : List S32} (h : Row w w1 b4 b5 v x) (u0 u1 : Int) (u2 : ByteArray) : Row w (((w1.setCell ⟨b5, 0, none⟩ (.int .i64 u0)).setCell ⟨b5, 1, none⟩ (.int .i64 u1)).setCell ⟨b5, 2, none⟩ (.string u2)) b4 b5 v x :=
  Kd.R_far (Kd.R_far (Kd.R_far h (fun _ hk => hk.2) _) (fun _ hk => hk.2) _) (fun _ hk => hk.2) _
end
theorem at_ {P : Program} {id : Nat} {ops : Array Oper} {b : Bool} {Q : Exit → Act → World → Prop} {a : Act} {W : World} (h : ∀ w', w' = W → (Code.region id ops b).wp P Q a w') : (Code.region id ops b).wp P Q a W := h W rfl
def Pair.T3 : Bool × List (List Nat × List Nat) := (true, [([], []), ([], []), ([], []), ([], []), ([0, 0], [0]), ([1, 4, 0, 1, 4], [1]), ([2, 5, 0, 1, 2, 4, 5], [2]), ([3, 6, 0, 1, 2, 3, 4, 5, 6], [3])])
def Pair.B3 : List Nat := [0, 0, 0, 0, 1, 19, 55, 127]
theorem Pair.tab3 : rtab .any (opsOf Tryz.f36 3) = Pair.T3 := by kernel_rfl
theorem Pair.bits3 : waitsOk Pair.T3.2 Pair.B3 = true := by kernel_rfl
def Pair.T6 : Bool × List (List Nat × List Nat) := (true, [([], []), ([0], [0]), ([1], [1]), ([], []), ([3], [3]), ([4], [4]), ([], []), ([2, 0, 1, 2], [2]), ([5, 7, 0, 1, 2, 3, 4, 5, 7], [5]), ([6, 8, 0, 1, 2, 3, 4, 5, 6, 7, 8], [6]), ([9, 0, 1, 2, 3, 4, 5, 6, 7, 8, 9], [])])
def Pair.B6 : List Nat := [0, 1, 3, 0, 8, 24, 0, 7, 191, 511, 1023]
theorem Pair.tab6 : rtab .any (opsOf Tryz.f36 6) = Pair.T6 := by kernel_rfl
theorem Pair.bits6 : waitsOk Pair.T6.2 Pair.B6 = true := by kernel_rfl
set_option maxHeartbeats 16000000 in
set_option maxRecDepth 100000 in
theorem calls (k : Nat) (A0 : Option Addr) (c0 : Nat) (l0 : List S62) (a1 r1 r2 : Int) (r3 : ByteArray) (r4 r5 : Int) (r6 : ByteArray) (r7 r8 : Int) (w : World) (hr0 : Kd.C k62 w A0 l0.length l0) (hc0 : l0.length ≤ c0) (h : line_Pair.f k l0 a1 = some (r1, r2, r3, r4, r5, r6, r7, r8)) :
    Calls Tryz.prog 36 #[.slice A0 l0.length c0, .int .i64 a1] w fun e w' => e = .returned (.tuple #[.agg #[.int .i64 r1, .int .i64 r2, .string r3], .agg #[.int .i64 r4, .int .i64 r5, .string r6], .int .i64 r7, .int .i64 r8]) ∧ Below w.heap.size w w' := by
  have hu2 := Tryz.underlying32
  have HR := Aside0.mk hr0
  have HC := Aside0.mk hc0
  have HB := Aside0.mk (Below.refl w.heap.size w)
  unfold line_Pair.f at h
  replace h := Option.bind_eq_some_iff.mp h
  obtain ⟨⟨t1, t2, t3⟩, hk, h⟩ := h
  have A1 := Aside0.mk hk
  clear hk hr0 hc0
  dsimp only at h
  by_cases e0 : t3 = 0
  · rw [if_pos e0] at h
    have q0 : (t3 != 0) = false := bne_eq_false_iff_eq.2 e0
    clear e0
    replace h := Option.bind_eq_some_iff.mp h
    obtain ⟨x, hm, h⟩ := h
    by_cases e1 : x.length = 2
    · rw [if_pos e1] at h
      simp only [Option.some.injEq, Prod.mk.injEq] at h
      obtain ⟨rfl, rfl, rfl, rfl, rfl, rfl, rfl, rfl⟩ := h
      have E1 := Aside0.mk e1
      have HM := Aside0.mk hm
      clear e1 hm
      go_enter Tryz.func36, Tryz.ntmps36
      go_upto_if 24 with (first | go_step3 | ((with_reducible refine gate_dst (N := 4) rfl ?_); refine box_event ?hg (N := 4) ?hd (cs := #[.int .i64 0, .int .i64 0, .string (⟨#[]⟩ : ByteArray)]) (t := 32) ?hr ?_; (case hd => rfl); (case hg => rfl); (case hr => first | (go_simp; done) | (go_simp; rfl)); intro b4 hg w2 hbox hb; have n0_ := Aside0.mk (below_step bel_ hb); have BL := Aside0.mk hbox; have OL := Aside0.mk ((bsz_ hg : w.heap.size ≤ b4)); clear HB; have HB := n0_; clear n0_ hb hbox hg) | ((with_reducible refine gate_dst (N := 5) rfl ?_); refine box_event ?hg (N := 5) ?hd (cs := #[.int .i64 0, .int .i64 0, .string (⟨#[]⟩ : ByteArray)]) (t := 32) ?hr ?_; (case hd => rfl); (case hg => rfl); (case hr => first | (go_simp; done) | (go_simp; rfl)); intro b5 hg w3 hbox hb; have HX : Aside0 (Sp w w3 b4 b5 0 0 ⟨#[]⟩ 0 0 ⟨#[]⟩) := ⟨⟨(blb_ BL hb).out, hbox, below_step bel_ hb, OL.out, line_Read.blt_ BL hg⟩⟩; clear HB BL OL hb hbox hg) | ((with_reducible refine gate_callee (f := 68) rfl ?_); refine goesL_ (some 12) rfl rfl Tryz.func68 (by kernel_rfl) rfl #[.slice A0 l0.length c0, .int .i64 a1, .int .i64 2] rfl goa_ ?_; (with_reducible refine (line_lines.calls k _ _ l0 a1 2 t1 t2 t3 _ ?side1 ?side2 A1.out).mono ?_); (case side1 => exact Kd.C_below HR.out (show Sp w _ b4 b5 0 0 ⟨#[]⟩ 0 0 ⟨#[]⟩ by repeat (first | (with_reducible first | exact HX.out | apply Sp.drewN | apply Sp.drew | apply Sp.alloc))).b); (case side2 => exact HC.out); rintro e w10 ⟨v, rfl, ho0, hb⟩; refine ⟨_, rfl, ?_⟩; have HO : Aside0 (Row w w10 b4 b5 v t1) := ⟨Kd.R_mono (Kd.R_lower (Kd.R_newB (Kd.R_newB ho0 (g := b4) (show Sp w _ b4 b5 0 0 ⟨#[]⟩ 0 0 ⟨#[]⟩ by repeat (first | (with_reducible first | exact HX.out | apply Sp.drewN | apply Sp.drew | apply Sp.alloc))).s) (g := b5) (show Sp w _ b4 b5 0 0 ⟨#[]⟩ 0 0 ⟨#[]⟩ by repeat (first | (with_reducible first | exact HX.out | apply Sp.drewN | apply Sp.drew | apply Sp.alloc))).e) (below_size (show Sp w _ b4 b5 0 0 ⟨#[]⟩ 0 0 ⟨#[]⟩ by repeat (first | (with_reducible first | exact HX.out | apply Sp.drewN | apply Sp.drew | apply Sp.alloc))).b)) (fun _ hk => ⟨hk.1.2, hk.2⟩)⟩; have n0_ := Aside0.mk (Sp.below (show Sp w _ b4 b5 0 0 ⟨#[]⟩ 0 0 ⟨#[]⟩ by repeat (first | (with_reducible first | exact HX.out | apply Sp.drewN | apply Sp.drew | apply Sp.alloc))) hb); clear HX hb ho0; have HX := n0_; clear n0_; obtain ⟨Ao, cv, eo⟩ := Kd.R_slice HO.out; subst eo; obtain ⟨hc0, hc1, hc2, hc3, hc4, hc5⟩ := HX.out.c; obtain ⟨hz0, hz1, hz2, hz3, hz4, hz5⟩ := HX.out.f; obtain ⟨hn0, hn1⟩ := HX.out.ne))
      go_cut [8] (fun v8 wc => ∃ (ad : Addr) (cx : Nat), v8 = .slice (some ad) x.length cx ∧ Aside0 (Sp w wc b4 b5 0 0 ⟨#[]⟩ 0 0 ⟨#[]⟩) ∧ Aside0 (Row w wc b4 b5 (.slice (some ad) x.length cx) x))
      case first =>
        have hm := HM.out
        clear HM
        have hn : 0 < t1.length := by
          unfold line_Pair.more at hm
          by_cases e2 : t1.length = 1
          · omega
          · rw [if_neg e2] at hm
            have := E1.out
            rw [← Option.some.inj hm] at this
            omega
        obtain ⟨ad, cv2, ev⟩ := Kd.R_slice1 HO.out hn
        cases ev
        unfold line_Pair.more at hm
        by_cases e2 : t1.length = 1
        · rw [if_pos e2] at hm
          replace hm := Option.bind_eq_some_iff.mp hm
          obtain ⟨⟨u1, u2, u3⟩, ho, hm⟩ := hm
          have A2 := Aside0.mk ho
          obtain rfl := Option.some.inj hm
          have c5b0 : decide ((t1.length : Int) < 2) = true := decide_eq_true (by omega)
          have c5b1 : decide (t1.length < 2) = true := decide_eq_true (by omega)
          obtain ⟨_, e0, hx0, hx1, hx2⟩ := at_T32 (Kd.R_reads' HO.out).2.2 0 (by omega) (by omega)
          cases e0
          have qi : (0 < t1.length) = True := eq_true hn
          have E2 := Aside0.mk e2
          clear ho hn e2
          (try rw [show ((0 : Int)).toNat = 0 from rfl] at hx0 hx1 hx2)
          (try rw [show 0 * 3 = 0 from rfl] at hx0 hx1 hx2)
          (try rw [Addr.add_zero'] at hx0 hx1 hx2)
          (first | rw [c5b0] | rw [c5b1] | (simp only [i64_w, i32_w]; rw [c5b0]) | skip)
          go_wp2_with (first | go_step3 | ((with_reducible refine gate_callee (f := 44) rfl ?_); refine goesL_ (some 29) rfl rfl Tryz.func44 (by kernel_rfl) rfl #[.agg #[.int .i64 (rd_T32 t1 0).f0, .int .i64 (rd_T32 t1 0).f1, .string (rd_T32 t1 0).f2]] rfl goa_ ?_; (with_reducible refine (line_other.calls _ _ _ u1 u2 u3 _ A2.out).mono ?_); rintro e w13 ⟨rfl, hb⟩; refine ⟨_, rfl, ?_⟩; have n0_ := Aside0.mk (Sp.below (show Sp w _ b4 b5 0 0 ⟨#[]⟩ 0 0 ⟨#[]⟩ by repeat (first | (with_reducible first | exact HX.out | apply Sp.drewN | apply Sp.drew | apply Sp.alloc))) hb); have n1_ : Aside0 (Row w w13 b4 b5 (.slice (some ad) t1.length cv) t1) := ⟨Kd.R_below (by (with_reducible repeat (first | apply Kd.R_alloc | apply Kd.R_drewN | apply Kd.R_drew)); exact HO.out) hb⟩; clear HX HO hb; have HX := n0_; have HO := n1_; clear n0_ n1_) | ((with_reducible refine gate_builtin (b := .append) (xs := #[.tmp 25, .tmp 30]) rfl ?_); at_builtin; refine Kd.R_append k32 (w0 := w) w.heap.size rfl (.tmp 25) (.tmp 30) 91 32 (.agg #[(.int .i64 0), (.int .i64 0), (.string ⟨#[]⟩)]) 32 rfl Tryz.underlying91 info32 rfl (by decide) (by omega) (.slice (some ad) t1.length cv) t1 (⟨u1, u2, u3⟩ : S32) [.int .i64 u1, .int .i64 u2, .string u3] (fun k => k ≠ b4 ∧ k ≠ b5) (fun _ => False) rfl rfl ?aP (fun _ hk => hk.elim) ?aF ?aO ?aB ?aS ?aL ?_; (case aP => exact k32_mkM _ _ _ (⟨u1, u2, u3⟩ : S32)); (case aB => exact (Sp.b (show Sp w _ b4 b5 0 0 ⟨#[]⟩ 0 0 ⟨#[]⟩ by repeat (first | (with_reducible first | exact HX.out | apply Sp.drewN | apply Sp.drew | apply Sp.alloc))))); (case aF => exact (fun k hk => by have := blk_lt (Sp.s (show Sp w _ b4 b5 0 0 ⟨#[]⟩ 0 0 ⟨#[]⟩ by repeat (first | (with_reducible first | exact HX.out | apply Sp.drewN | apply Sp.drew | apply Sp.alloc)))); have := blk_lt (Sp.e (show Sp w _ b4 b5 0 0 ⟨#[]⟩ 0 0 ⟨#[]⟩ by repeat (first | (with_reducible first | exact HX.out | apply Sp.drewN | apply Sp.drew | apply Sp.alloc)))); exact ⟨by omega, by omega⟩)); (case aO => exact (by (with_reducible repeat (first | apply Kd.R_alloc | apply Kd.R_drewN | apply Kd.R_drew)); exact HO.out)); (case aS => exact (below_size (Sp.b (show Sp w _ b4 b5 0 0 ⟨#[]⟩ 0 0 ⟨#[]⟩ by repeat (first | (with_reducible first | exact HX.out | apply Sp.drewN | apply Sp.drew | apply Sp.alloc)))))); (case aL => have := E2.out; omega); intro v2 w14 ho hb hg hat; have HG := Aside0.mk (HO.out.1 ad.block rfl); have n0_ := Aside0.mk (Sp.grown (show Sp w _ b4 b5 0 0 ⟨#[]⟩ 0 0 ⟨#[]⟩ by repeat (first | (with_reducible first | exact HX.out | apply Sp.drewN | apply Sp.drew | apply Sp.alloc))) hg (fun e => HG.out.1 (Option.some.inj e).symm) (fun e => HG.out.2 (Option.some.inj e).symm) hb); clear HX HO; have HX := n0_; have HO : Aside0 (Row w w14 b4 b5 v2 (t1 ++ [⟨u1, u2, u3⟩])) := ⟨ho⟩; clear n0_ ho hb hg hat HG))
          have hl : (t1 ++ [(⟨u1, u2, u3⟩ : S32)]).length = t1.length + 1 := by rw [List.length_append, List.length_singleton]
          obtain ⟨ad2, cx, rfl⟩ := Kd.R_slice1 HO.out (by rw [hl]; omega)
          go_meet
          case rel => exact ⟨ad2, cx, rfl, HX, HO⟩
        · rw [if_neg e2] at hm
          obtain rfl := Option.some.inj hm
          have c5b0 : decide ((t1.length : Int) < 2) = false := decide_eq_false (by have := E1.out; omega)
          have c5b1 : decide (t1.length < 2) = false := decide_eq_false (by have := E1.out; omega)
          clear hn e2
          (first | rw [c5b0] | rw [c5b1] | (simp only [i64_w, i32_w]; rw [c5b0]) | skip)
          go_wp2_with (first | go_step3)
          go_meet
          case rel => exact ⟨ad, cv, rfl, ⟨(show Sp w _ b4 b5 0 0 ⟨#[]⟩ 0 0 ⟨#[]⟩ by repeat (first | (with_reducible first | exact HX.out | apply Sp.drewN | apply Sp.drew | apply Sp.alloc)))⟩, ⟨(by (with_reducible repeat (first | apply Kd.R_alloc | apply Kd.R_drewN | apply Kd.R_drew)); exact HO.out)⟩⟩
      case rest =>
        clear HX HO HM
        obtain ⟨ad, cx, rfl, HX, HO⟩ := hcut
        have qx0 : (0 < x.length) = True := eq_true (by have := E1.out; omega)
        have qx1 : (1 < x.length) = True := eq_true (by have := E1.out; omega)
        go_wp2_with (first | go_step3)
        refine at_ (fun w4 hw4 => ?_)
        have HX4 : Aside0 (Sp w w4.drew b4 b5 0 0 ⟨#[]⟩ 0 0 ⟨#[]⟩) := ⟨Sp.drew (by rw [hw4]; exact (show Sp w _ b4 b5 0 0 ⟨#[]⟩ 0 0 ⟨#[]⟩ by repeat (first | (with_reducible first | exact HX.out | apply Sp.drewN | apply Sp.drew | apply Sp.alloc))))⟩
        have HO4 : Aside0 (Row w w4.drew b4 b5 (.slice (some ad) x.length cx) x) := ⟨Kd.R_drew (by rw [hw4]; exact (by (with_reducible repeat (first | apply Kd.R_alloc | apply Kd.R_drewN | apply Kd.R_drew)); exact HO.out))⟩
        clear hw4 HX HO
        have hx2 := E1.out
        refine start_ (n := 11) (S := (fun w' => Kd.C k32 w' (some ad) x.length x)) (ds := []) #[false, false, false, false, false, false, false, false, false, false, false] (by kernel_rfl) rfl rfl (Kd.R_reads' HO4.out).2.2 (fun hHeld => ?_)
        refine with_tabW Pair.tab6 Pair.bits6 (fun HT_ HW_ => ?_)
        generalize w4.drew = w5 at HX4 HO4 hHeld ⊢
        refine pus_ 0 (some 32) #[true, false, false, false, false, false, false, false, false, false, false] rfl rfl HT_.out ?_
        refine pus_ 1 (some 33) #[true, true, false, false, false, false, false, false, false, false, false] rfl rfl HT_.out ?_
        refine take_ (i := 2) (N := (some 34)) (v := ?_) (a' := ?_) #[true, true, true, false, false, false, false, false, false, false, false] rfl rfl (take_ofW HT_.out HW_.out (by kernel_rfl)) (fun _ _ _ h => h) (Or.inl ⟨by rfl, ?_⟩) hHeld ?_ ?_
        rotate_left
        ·rintro w' hS
         obtain ⟨_, e0, h0, h1, h2⟩ := at_T32 hS 0 (by omega) (by omega)
         cases e0
         (try rw [show ((0 : Int)).toNat = 0 from rfl] at h0 h1 h2)
         (try rw [show 0 * 3 = 0 from rfl] at h0 h1 h2)
         (try rw [Addr.add_zero'] at h0 h1 h2)
         (try simp only [Addr.add, show ((1 : Int)).toNat * 3 = 3 from rfl, show ((3 : Nat) = 0) = False from eq_false (by decide), if_false] at h0 h1 h2)
         go_simp
         with_reducible rfl
        rotate_left
        ·simp only [Act.put, List.setIfInBounds_toArray, List.set_cons_zero, List.set_cons_succ, i64_w, i32_w]
         rfl
        refine pus_ 3 (some 35) #[true, true, true, true, false, false, false, false, false, false, false] rfl rfl HT_.out ?_
        refine pus_ 4 (some 36) #[true, true, true, true, true, false, false, false, false, false, false] rfl rfl HT_.out ?_
        refine take_ (i := 5) (N := (some 37)) (v := ?_) (a' := ?_) #[true, true, true, true, true, true, false, false, false, false, false] rfl rfl (take_ofW HT_.out HW_.out (by kernel_rfl)) (fun _ _ _ h => h) (Or.inl ⟨by rfl, ?_⟩) hHeld ?_ ?_
        rotate_left
        ·rintro w' hS
         obtain ⟨_, e0, h0, h1, h2⟩ := at_T32 hS 1 (by omega) (by omega)
         cases e0
         (try rw [show ((0 : Int)).toNat = 0 from rfl] at h0 h1 h2)
         (try rw [show 0 * 3 = 0 from rfl] at h0 h1 h2)
         (try rw [Addr.add_zero'] at h0 h1 h2)
         (try simp only [Addr.add, show ((1 : Int)).toNat * 3 = 3 from rfl, show ((3 : Nat) = 0) = False from eq_false (by decide), if_false] at h0 h1 h2)
         go_simp
         with_reducible rfl
        rotate_left
        ·simp only [Act.put, List.setIfInBounds_toArray, List.set_cons_zero, List.set_cons_succ, i64_w, i32_w]
         rfl
        refine pus_ 6 (some 38) #[true, true, true, true, true, true, true, false, false, false, false] rfl rfl HT_.out ?_
        obtain ⟨hz0, hz1, hz2, hz3, hz4, hz5⟩ := HX4.out.f
        obtain ⟨hc0, hc1, hc2, hc3, hc4, hc5⟩ := HX4.out.c
        have HX5 := Aside0.mk (HX4.out.sets (rd_T32 x 0).f0 (rd_T32 x 0).f1 (rd_T32 x 0).f2)
        have HO5 := Aside0.mk (Row.sets HO4.out (rd_T32 x 0).f0 (rd_T32 x 0).f1 (rd_T32 x 0).f2)
        have HX6 := Aside0.mk (HX5.out.sete (rd_T32 x 1).f0 (rd_T32 x 1).f1 (rd_T32 x 1).f2)
        have HO6 := Aside0.mk (Row.sete HO5.out (rd_T32 x 1).f0 (rd_T32 x 1).f1 (rd_T32 x 1).f2)
        refine one_ (i := 7) (N := none) #[true, true, true, true, true, true, true, true, false, false, false] rfl rfl (one_of HT_.out (by kernel_rfl)) (by decide) (fun K hK => ?_)
        refine skip_ (w1 := ?_) (by rfl) rfl ?_ ?_
        rotate_left
        ·go_simp
         rfl
        refine hK.out _ _ (Kd.R_reads' HO5.out).2.2 (fun hHeld => ?_)
        clear hK K
        refine one_ (i := 8) (N := none) #[true, true, true, true, true, true, true, true, true, false, false] rfl rfl (one_of HT_.out (by kernel_rfl)) (by decide) (fun K hK => ?_)
        refine skip_ (w1 := ?_) (by rfl) rfl ?_ ?_
        rotate_left
        ·go_simp
         rfl
        refine hK.out _ _ (Kd.R_reads' HO6.out).2.2 (fun hHeld => ?_)
        clear hK K
        refine pus_ 9 (some 6) #[true, true, true, true, true, true, true, true, true, true, false] rfl rfl HT_.out ?_
        refine pus_ 10 (some 7) #[true, true, true, true, true, true, true, true, true, true, true] rfl rfl HT_.out ?_
        refine done_ (done_of HT_.out (by kernel_rfl)) ?_
        go_wp2
        (try (rw [Exit.noGoto_ret]; try dsimp only [Exit.inBlock, Exit.then]))
        refine bodyPost_ret (results_list (rs := [.cell 4 32, .cell 5 32, .tmp 6, .tmp 7]) rfl (by simp) (.cell b4 32 #[.int .i64 (rd_T32 x 0).f0, .int .i64 (rd_T32 x 0).f1, .string (rd_T32 x 0).f2] (0, 0) _ rfl HX6.out.s Tryz.underlying32 rfl (by kernel_rfl) (.cell b5 32 #[.int .i64 (rd_T32 x 1).f0, .int .i64 (rd_T32 x 1).f1, .string (rd_T32 x 1).f2] (0, 0) _ rfl HX6.out.e Tryz.underlying32 rfl (by kernel_rfl) (.tmp (.tmp .nil))))) rfl ?_
        exact ⟨rsl_, HX6.out.b⟩
    · rw [if_neg e1] at h
      cases h
  · rw [if_neg e0] at h
    have q0 : (t3 != 0) = true := bne_iff_ne.2 e0
    clear e0
    simp only [Option.some.injEq, Prod.mk.injEq] at h
    obtain ⟨rfl, rfl, rfl, rfl, rfl, rfl, rfl, rfl⟩ := h
    go_enter Tryz.func36, Tryz.ntmps36
    go_wp2_with (first | go_step3 | ((with_reducible refine gate_dst (N := 4) rfl ?_); refine box_event ?hg (N := 4) ?hd (cs := #[.int .i64 0, .int .i64 0, .string (⟨#[]⟩ : ByteArray)]) (t := 32) ?hr ?_; (case hd => rfl); (case hg => rfl); (case hr => first | (go_simp; done) | (go_simp; rfl)); intro b4 hg w2 hbox hb; have n0_ := Aside0.mk (below_step bel_ hb); have BL := Aside0.mk hbox; have OL := Aside0.mk ((bsz_ hg : w.heap.size ≤ b4)); clear HB; have HB := n0_; clear n0_ hb hbox hg) | ((with_reducible refine gate_dst (N := 5) rfl ?_); refine box_event ?hg (N := 5) ?hd (cs := #[.int .i64 0, .int .i64 0, .string (⟨#[]⟩ : ByteArray)]) (t := 32) ?hr ?_; (case hd => rfl); (case hg => rfl); (case hr => first | (go_simp; done) | (go_simp; rfl)); intro b5 hg w3 hbox hb; have HX : Aside0 (Sp w w3 b4 b5 0 0 ⟨#[]⟩ 0 0 ⟨#[]⟩) := ⟨⟨(blb_ BL hb).out, hbox, below_step bel_ hb, OL.out, line_Read.blt_ BL hg⟩⟩; clear HB BL OL hb hbox hg) | ((with_reducible refine gate_callee (f := 68) rfl ?_); refine goesL_ (some 12) rfl rfl Tryz.func68 (by kernel_rfl) rfl #[.slice A0 l0.length c0, .int .i64 a1, .int .i64 2] rfl goa_ ?_; (with_reducible refine (line_lines.calls k _ _ l0 a1 2 t1 t2 t3 _ ?side1 ?side2 A1.out).mono ?_); (case side1 => exact Kd.C_below HR.out (show Sp w _ b4 b5 0 0 ⟨#[]⟩ 0 0 ⟨#[]⟩ by repeat (first | (with_reducible first | exact HX.out | apply Sp.drewN | apply Sp.drew | apply Sp.alloc))).b); (case side2 => exact HC.out); rintro e w10 ⟨v, rfl, ho0, hb⟩; refine ⟨_, rfl, ?_⟩; have HO : Aside0 (Row w w10 b4 b5 v t1) := ⟨Kd.R_mono (Kd.R_lower (Kd.R_newB (Kd.R_newB ho0 (g := b4) (show Sp w _ b4 b5 0 0 ⟨#[]⟩ 0 0 ⟨#[]⟩ by repeat (first | (with_reducible first | exact HX.out | apply Sp.drewN | apply Sp.drew | apply Sp.alloc))).s) (g := b5) (show Sp w _ b4 b5 0 0 ⟨#[]⟩ 0 0 ⟨#[]⟩ by repeat (first | (with_reducible first | exact HX.out | apply Sp.drewN | apply Sp.drew | apply Sp.alloc))).e) (below_size (show Sp w _ b4 b5 0 0 ⟨#[]⟩ 0 0 ⟨#[]⟩ by repeat (first | (with_reducible first | exact HX.out | apply Sp.drewN | apply Sp.drew | apply Sp.alloc))).b)) (fun _ hk => ⟨hk.1.2, hk.2⟩)⟩; have n0_ := Aside0.mk (Sp.below (show Sp w _ b4 b5 0 0 ⟨#[]⟩ 0 0 ⟨#[]⟩ by repeat (first | (with_reducible first | exact HX.out | apply Sp.drewN | apply Sp.drew | apply Sp.alloc))) hb); clear HX hb ho0; have HX := n0_; clear n0_; obtain ⟨Ao, cv, eo⟩ := Kd.R_slice HO.out; subst eo; obtain ⟨hc0, hc1, hc2, hc3, hc4, hc5⟩ := HX.out.c; obtain ⟨hz0, hz1, hz2, hz3, hz4, hz5⟩ := HX.out.f; obtain ⟨hn0, hn1⟩ := HX.out.ne))
    refine at_ (fun w4 hw4 => ?_)
    have HX4 : Aside0 (Sp w w4.drew b4 b5 0 0 ⟨#[]⟩ 0 0 ⟨#[]⟩) := ⟨Sp.drew (by rw [hw4]; exact (show Sp w _ b4 b5 0 0 ⟨#[]⟩ 0 0 ⟨#[]⟩ by repeat (first | (with_reducible first | exact HX.out | apply Sp.drewN | apply Sp.drew | apply Sp.alloc))))⟩
    clear hw4 HX hc0 hc1 hc2 hc3 hc4 hc5 hz0 hz1 hz2 hz3 hz4 hz5
    refine start_ (n := 8) (S := (fun w' => w'.cell? ⟨b4, 0, none⟩ = some (.int .i64 0) ∧ w'.cell? ⟨b4, 1, none⟩ = some (.int .i64 0) ∧ w'.cell? ⟨b4, 2, none⟩ = some (.string ⟨#[]⟩) ∧ w'.cell? ⟨b5, 0, none⟩ = some (.int .i64 0) ∧ w'.cell? ⟨b5, 1, none⟩ = some (.int .i64 0) ∧ w'.cell? ⟨b5, 2, none⟩ = some (.string ⟨#[]⟩))) (ds := []) #[false, false, false, false, false, false, false, false] (by kernel_rfl) rfl rfl HX4.out.c (fun hHeld => ?_)
    refine with_tabW Pair.tab3 Pair.bits3 (fun HT_ HW_ => ?_)
    generalize w4.drew = w5 at HX4 hHeld ⊢
    refine tas_ 0 (some 18) #[true, false, false, false, false, false, false, false] rfl rfl HT_.out HW_.out hHeld ?_
    refine tas_ 1 (some 19) #[true, true, false, false, false, false, false, false] rfl rfl HT_.out HW_.out hHeld ?_
    refine pus_ 2 (some 20) #[true, true, true, false, false, false, false, false] rfl rfl HT_.out ?_
    refine pus_ 3 (some 21) #[true, true, true, true, false, false, false, false] rfl rfl HT_.out ?_
    obtain ⟨hz0, hz1, hz2, hz3, hz4, hz5⟩ := HX4.out.f
    obtain ⟨hc0, hc1, hc2, hc3, hc4, hc5⟩ := HX4.out.c
    have HX5 := Aside0.mk (HX4.out.sets 0 0 ⟨#[]⟩)
    have HX6 := Aside0.mk (HX5.out.sete 0 0 ⟨#[]⟩)
    refine one_ (i := 4) (N := none) #[true, true, true, true, true, false, false, false] rfl rfl (one_of HT_.out (by kernel_rfl)) (by decide) (fun K hK => ?_)
    refine skip_ (w1 := ?_) (by rfl) rfl ?_ ?_
    rotate_left
    ·go_simp
     rfl
    refine hK.out _ _ HX5.out.c (fun hHeld => ?_)
    clear hK K
    refine one_ (i := 5) (N := none) #[true, true, true, true, true, true, false, false] rfl rfl (one_of HT_.out (by kernel_rfl)) (by decide) (fun K hK => ?_)
    refine skip_ (w1 := ?_) (by rfl) rfl ?_ ?_
    rotate_left
    ·go_simp
     rfl
    refine hK.out _ _ HX6.out.c (fun hHeld => ?_)
    clear hK K
    refine pus_ 6 (some 6) #[true, true, true, true, true, true, true, false] rfl rfl HT_.out ?_
    refine pus_ 7 (some 7) #[true, true, true, true, true, true, true, true] rfl rfl HT_.out ?_
    refine done_ (done_of HT_.out (by kernel_rfl)) ?_
    go_wp2
    (try (rw [Exit.noGoto_ret]; try dsimp only [Exit.inBlock, Exit.then]))
    refine bodyPost_ret (results_list (rs := [.cell 4 32, .cell 5 32, .tmp 6, .tmp 7]) rfl (by simp) (.cell b4 32 #[.int .i64 0, .int .i64 0, .string (⟨#[]⟩ : ByteArray)] (0, 0) _ rfl HX6.out.s Tryz.underlying32 rfl (by kernel_rfl) (.cell b5 32 #[.int .i64 0, .int .i64 0, .string (⟨#[]⟩ : ByteArray)] (0, 0) _ rfl HX6.out.e Tryz.underlying32 rfl (by kernel_rfl) (.tmp (.tmp .nil))))) rfl ?_
    exact ⟨rsl_, HX6.out.b⟩
end line_Pair
end Go.Proofs.YtofdhdafabmhmaaGreatDoor.Giv
end
section
namespace Go.Proofs.YtofdhdafabmhmaaGreatDoor.PLt
open Go.RowKit Go.Proofs.YtofdhdafabmhmaaGreatDoorW.PrintWords Go.Proofs.YtofdhdafabmhmaaGreatDoorW.PrintLast Go.Proofs.YtofdhdafabmhmaaGreatDoorW.PrintMore
attribute [local go_sem] max2_int min2_int max_two min_two max_three min_three max_four min_four
open Go.Proofs.YtofdhdafabmhmaaGreatDoor.Opn Go.Proofs.YtofdhdafabmhmaaGreatDoor.Giv

attribute [local go_sem high] eqA32
/-! ### parterrelaw07_lives: function 15 -/
def parterrelaw07_lives.l0 : Nat → List ByteArray → Int → Int → Int → Int → ByteArray → Option (Bool)
 | 0, _, _, _, _, _, _ => none
 | k + 1, x15, x16, x17, x246000, x246001, x246002 => if x17 < x16 then (if 0 ≤ x17 then (if x17 < (x15.length : Int) then ((parterrelaw07_words.f k (rdOf ByteArray.empty x15 x17)).bind fun t250 => ((line_Read.f k t250 0).bind fun bt253 => (if bt253.2.2.2.2 = 0 then (if (!(bt253.1 == x246000) || (!(bt253.2.1 == x246001) || (!(bt253.2.2.1.toList == x246002.toList)))) = true then (none) else (parterrelaw07_lives.l0 k x15 x16 (wrap64 (x17 + 1)) x246000 x246001 x246002)) else (none)))) else (none)) else (none)) else ((parterrelaw07_words.f k (⟨#[97]⟩ : ByteArray)).bind fun t259 => ((line_Pair.f k t259 0).bind fun bt262 => ((parterrelaw07_words.f k (⟨#[48]⟩ : ByteArray)).bind fun t272 => ((line_Read.f k t272 0).bind fun bt275 => (if bt262.2.2.2.2.2.2.2 = 0 then (if (bt262.1 == bt262.2.2.2.1 && (bt262.2.1 == bt262.2.2.2.2.1 && (bt262.2.2.1.toList == bt262.2.2.2.2.2.1.toList))) = true then (if bt262.2.2.1.toList = ([97] : List UInt8) then (some (bt275.2.2.2.2 == 50)) else (none)) else (none)) else (none))))))
def parterrelaw07_lives.f (k : Nat)  : Option (Bool) := (some (([(⟨#[115, 112, 97, 110, 32, 50, 32, 97]⟩ : ByteArray), (⟨#[97, 32, 50, 32, 115, 112, 97, 110]⟩ : ByteArray), (⟨#[115, 112, 97, 110, 32, 97, 32, 50]⟩ : ByteArray)] : List ByteArray) : List ByteArray)).bind fun y246 => (parterrelaw07_lives.l0 k y246 (y246.length : Int) 0 4 2 (⟨#[97]⟩ : ByteArray))
theorem parterrelaw07_lives.mono_l : ∀ k, (∀ y0 y1 y2 y3 y4 y5, LeO (parterrelaw07_lives.l0 k y0 y1 y2 y3 y4 y5) (parterrelaw07_lives.l0 (k + 1) y0 y1 y2 y3 y4 y5))
 | 0 => fun _ _ _ _ _ _ r h => by simp [parterrelaw07_lives.l0] at h
 | k + 1 => by
  have ih0 := parterrelaw07_lives.mono_l k
  ·intro y0 y1 y2 y3 y4 y5
   unfold parterrelaw07_lives.l0
   repeat' first
   | (with_reducible exact ih0 _ _ _ _ _ _)
   | (with_reducible exact line_Pair.mono _ _ _)
   | (with_reducible exact line_Read.mono _ _ _)
   | (with_reducible exact parterrelaw07_words.mono _ _)
   | (with_reducible exact LeO.refl _)
   | (with_reducible exact LeO.none _)
   | (with_reducible refine LeO.ite ?_ ?_)
   | (with_reducible refine LeO.bind ?_ (fun _ => ?_))
theorem parterrelaw07_lives.mono : ∀ k, LeO (parterrelaw07_lives.f k ) (parterrelaw07_lives.f (k + 1) ) := by
 intro  k
 have ih0 := parterrelaw07_lives.mono_l k
 unfold parterrelaw07_lives.f
 repeat' first
   | (with_reducible exact ih0 _ _ _ _ _ _)
   | (with_reducible exact line_Pair.mono _ _ _)
   | (with_reducible exact line_Read.mono _ _ _)
   | (with_reducible exact parterrelaw07_words.mono _ _)
   | (with_reducible exact LeO.refl _)
   | (with_reducible exact LeO.none _)
   | (with_reducible refine LeO.ite ?_ ?_)
   | (with_reducible refine LeO.bind ?_ (fun _ => ?_))
set_option maxHeartbeats 8000000 in
set_option maxRecDepth 100000 in
theorem parterrelaw07_lives.calls (k : Nat)  (r : Bool) (w : World) (h : parterrelaw07_lives.f k  = some r) :
  Calls Tryz.prog 15 #[] w fun e w' => e = .returned (.bool r) ∧ Below w.heap.size w w' := by
 have hu32 := Tryz.underlying32
 have HB := Aside0.mk (Below.refl w.heap.size w)
 have H : ((some (([(⟨#[115, 112, 97, 110, 32, 50, 32, 97]⟩ : ByteArray), (⟨#[97, 32, 50, 32, 115, 112, 97, 110]⟩ : ByteArray), (⟨#[115, 112, 97, 110, 32, 97, 32, 50]⟩ : ByteArray)] : List ByteArray) : List ByteArray)).bind fun y246 => (parterrelaw07_lives.l0 k y246 (y246.length : Int) 0 4 2 (⟨#[97]⟩ : ByteArray))) = some r := h
 clear h
 obtain ⟨y246, hy246⟩ : ∃ y_ : List ByteArray, y_ = (([(⟨#[115, 112, 97, 110, 32, 50, 32, 97]⟩ : ByteArray), (⟨#[97, 32, 50, 32, 115, 112, 97, 110]⟩ : ByteArray), (⟨#[115, 112, 97, 110, 32, 97, 32, 50]⟩ : ByteArray)] : List ByteArray)) := ⟨_, rfl⟩
 replace H : (parterrelaw07_lives.l0 k y246 (y246.length : Int) 0 4 2 (⟨#[97]⟩ : ByteArray)) = some r := by first | (rw [hy246]; with_reducible exact H) | (have H2_ := (Option.bind_some _ _).symm.trans H; rw [hy246]; with_reducible exact H2_) | (have H2_ := (Option.bind_some _ _).symm.trans H; with_reducible exact H2_) | with_reducible exact H | (rw [hy246]; exact H) | exact H
 have Ny246 := Aside0.mk hy246
 clear hy246
 have H' := Aside0.mk H
 clear H
 go_enter Tryz.func15, Tryz.ntmps15
 go_wp2_with (first | ((with_reducible refine gate_dst (N := 1) rfl ?_); refine box_event ?hg (N := 1) ?hd (cs := #[.int .i64 0, .int .i64 0, .string (⟨#[]⟩ : ByteArray)]) (t := 32) ?hr ?_; (case hd => rfl); (case hg => rfl); (case hr => first | (go_simp; done) | (go_simp; rfl)); intro gb245 hg w1 hbox hb; have n0_ := Aside0.mk (below_step bel_ hb); have n1_ := Aside0.mk (hbox); have n2_ := Aside0.mk ((bsz_ hg : w.heap.size ≤ gb245)); have n3_ := Aside0.mk ((bsz_ hg : w.heap.size ≤ gb245)); clear HB; have HB := n0_; have BK245 := n1_; have GW245 := n2_; have GE245 := n3_; clear n0_ n1_ n2_ n3_; clear hb hbox hg; have hcz2_0 : w1.cell? ⟨gb245, 0, none⟩ = some (.int .i64 0) := (blk_cell BK245.out 0).trans rfl; have hcz2_1 : w1.cell? ⟨gb245, 1, none⟩ = some (.int .i64 0) := (blk_cell BK245.out 1).trans rfl; have hcz2_2 : w1.cell? ⟨gb245, 2, none⟩ = some (.string (⟨#[]⟩ : ByteArray)) := (blk_cell BK245.out 2).trans rfl; have hfz2_0 := blk_frozen BK245.out 0; have hfz2_1 := blk_frozen BK245.out 1; have hfz2_2 := blk_frozen BK245.out 2) | ((with_reducible refine gate_dst (N := 15) rfl ?_); refine Kd.R_lit Kd.string _ 9 ?hg (N := 15) ?hd (xs := ([(⟨#[115, 112, 97, 110, 32, 50, 32, 97]⟩ : ByteArray), (⟨#[97, 32, 50, 32, 115, 112, 97, 110]⟩ : ByteArray), (⟨#[115, 112, 97, 110, 32, 97, 32, 50]⟩ : ByteArray)] : List ByteArray)) (inner := [.string (⟨#[115, 112, 97, 110, 32, 50, 32, 97]⟩ : ByteArray), .string (⟨#[97, 32, 50, 32, 115, 112, 97, 110]⟩ : ByteArray), .string (⟨#[115, 112, 97, 110, 32, 97, 32, 50]⟩ : ByteArray)]) (ok := fun _ => True) (okp := fun _ => True) ?hr ?hp (fun _ hk => hk) trivial (Below.refl _ _) (Nat.le_refl _) (by simp) ?_; (case hd => rfl); (case hg => rfl); (case hr => first | (go_simp; done) | (go_simp; rfl)); (case hp => exact (Reps.one (show Kd.M Kd.string _ _ _ (⟨#[115, 112, 97, 110, 32, 50, 32, 97]⟩ : ByteArray) [.string (⟨#[115, 112, 97, 110, 32, 50, 32, 97]⟩ : ByteArray)] from rfl) (Reps.one (show Kd.M Kd.string _ _ _ (⟨#[97, 32, 50, 32, 115, 112, 97, 110]⟩ : ByteArray) [.string (⟨#[97, 32, 50, 32, 115, 112, 97, 110]⟩ : ByteArray)] from rfl) (Reps.one (show Kd.M Kd.string _ _ _ (⟨#[115, 112, 97, 110, 32, 97, 32, 50]⟩ : ByteArray) [.string (⟨#[115, 112, 97, 110, 32, 97, 32, 50]⟩ : ByteArray)] from rfl) (Reps.none _ _))))); intro v247 w3 ho4 hb hg_ hnew_; clear hg_ hnew_; (first | rw [← Ny246.out] at ho4 | (simp only [Int.reduceToNat] at ho4; rw [← Ny246.out] at ho4)); have n0_ := Aside0.mk (Kd.R_lower ho4 (below_size bel_)); have n1_ := Aside0.mk (blk_below (g := gb245) (o := .cells #[.int .i64 4, .int .i64 2, .string (⟨#[97]⟩ : ByteArray)] 32 (0, 0)) (by (with_reducible repeat (first | refine blk_drewN ?_ _ | refine blk_drew ?_ | refine blk_alloc ?_ _)); refine blk_put (cs := #[.int .i64 4, .int .i64 2, .string (⟨#[]⟩ : ByteArray)]) ?_ 2 _ rfl; (with_reducible repeat (first | refine blk_drewN ?_ _ | refine blk_drew ?_ | refine blk_alloc ?_ _)); refine blk_put (cs := #[.int .i64 4, .int .i64 0, .string (⟨#[]⟩ : ByteArray)]) ?_ 1 _ rfl; (with_reducible repeat (first | refine blk_drewN ?_ _ | refine blk_drew ?_ | refine blk_alloc ?_ _)); refine blk_put (cs := #[.int .i64 0, .int .i64 0, .string (⟨#[]⟩ : ByteArray)]) ?_ 0 _ rfl; (with_reducible repeat (first | refine blk_drewN ?_ _ | refine blk_drew ?_ | refine blk_alloc ?_ _)); exact BK245.out) hb); have n2_ := Aside0.mk (below_step bel_ hb); clear BK245; clear HB; have HO248 := n0_; have BK245 := n1_; have HB := n2_; clear n0_ n1_ n2_; clear hb ho4; obtain ⟨Ao5, co5, eo5⟩ := Kd.R_slice HO248.out; subst eo5))
 go_loopg [17] k (fun kq v17 w' => ∃ (x17_1 : Int), v17 = .int .i64 x17_1 ∧ Aside0 (parterrelaw07_lives.l0 kq y246 (y246.length : Int) x17_1 4 2 (⟨#[97]⟩ : ByteArray) = some r) ∧ Aside0 (kq ≤ k) ∧ Aside0 (Kd.R Kd.string 9 w' w.heap.size (fun _ => True) (.slice Ao5 y246.length co5) y246) ∧ Aside0 (w'.heap[gb245]? = some (.cells #[.int .i64 4, .int .i64 2, .string (⟨#[97]⟩ : ByteArray)] 32 (0, 0))) ∧ Aside0 (Below w.heap.size w w'))
 case atStart => exact ⟨(0), rfs_, H', ⟨Nat.le_refl _⟩, ⟨by (with_reducible repeat (first | apply Kd.R_alloc | apply Kd.R_drewN | apply Kd.R_drew)); exact HO248.out⟩, ⟨blk_⟩, ⟨bel_⟩⟩
 case round =>
  clear H'
  try clear c1
  try clear p2
  try clear hcz2_0
  try clear hcz2_1
  try clear hcz2_2
  try clear hfz2_0
  try clear hfz2_1
  try clear hfz2_2
  obtain ⟨x17_1, rfl, HA, HK1, HO_15, BK245, HB⟩ := hrel
  cases gk with
  | zero => exact absurd HA.out (by simp [parterrelaw07_lives.l0])
  | succ k1 =>
   have H := HA.out
   clear HA
   simp only [parterrelaw07_lives.l0] at H
   by_cases c6 : x17_1 < (y246.length : Int)
   ·rw [if_pos c6] at H
    have c6b0 : decide (x17_1 < (y246.length : Int)) = true := decide_eq_true c6
    clear c6
    by_cases c7 : 0 ≤ x17_1
    ·rw [if_pos c7] at H
     have c7b0 : decide (0 ≤ x17_1) = true := decide_eq_true c7
     clear c7
     by_cases c8 : x17_1 < (y246.length : Int)
     ·rw [if_pos c8] at H
      have c8b0 : decide (x17_1 < (y246.length : Int)) = true := decide_eq_true c8
      clear c8
      replace H := Option.bind_eq_some_iff.mp H
      obtain ⟨t250, A90, H⟩ := H
      try dsimp only at H
      have A9 := Aside0.mk A90
      clear A90
      replace H := Option.bind_eq_some_iff.mp H
      obtain ⟨⟨t253, t254, t255, t256, t257⟩, A100, H⟩ := H
      try dsimp only at H
      have A10 := Aside0.mk A100
      clear A100
      by_cases c11 : t257 = 0
      ·rw [if_pos c11] at H
       have c11b0 : (t257 == 0) = true := beq_iff_eq.mpr c11
       have c11b1 : (t257 != 0) = false := bne_eq_false_iff_eq.mpr c11
       clear c11
       by_cases c12 : (!(t253 == 4) || (!(t254 == 2) || (!(t255.toList == (⟨#[97]⟩ : ByteArray).toList)))) = true
       ·rw [if_pos c12] at H
        exact absurd H (by simp)
       ·rw [if_neg c12] at H
        have c12b0 : (!(t253 == 4) || (!(t254 == 2) || (!(t255.toList == ([97] : List UInt8))))) = false := by rw [show (⟨#[97]⟩ : ByteArray).toList = ([97] : List UInt8) by rw [ByteArray.toList_eq]] at c12; simpa using c12
        clear c12
        have H' := Aside0.mk H
        clear H
        have p249 : 0 ≤ (x17_1 : Int) := of_decide_eq_true (by first | (with_reducible assumption) | assumption)
        have q249 : x17_1 < (y246.length : Int) := of_decide_eq_true (by first | (with_reducible assumption) | assumption)
        obtain ⟨ad249, e249, hx249_0⟩ := Kd.at_string (Kd.R_reads' HO_15.out).2.2 x17_1 p249 q249
        cases e249
        replace p249 := eq_true p249
        replace q249 := eq_true q249
        go_wp2_with (first | ((with_reducible refine gate_callee (f := 35) rfl ?_); refine goesL_ (some 23) rfl rfl Tryz.func35 (by kernel_rfl) rfl #[.string (rdOf ByteArray.empty y246 x17_1)] rfl goa_ ?_; (with_reducible refine (parterrelaw07_words.calls k1 (rdOf ByteArray.empty y246 x17_1) t250 _ A9.out).mono ?_); rintro e w13 ⟨v251, rfl, ho0, hb⟩; refine ⟨_, rfl, ?_⟩; have n0_ := Aside0.mk (Kd.R_below (by (with_reducible repeat (first | apply Kd.R_alloc | apply Kd.R_drewN | apply Kd.R_drew)); exact HO_15.out) hb); have n1_ := Aside0.mk (Kd.R_lower ho0 (below_size bel_)); have n2_ := blb_ BK245 hb; have n3_ := Aside0.mk (below_step bel_ hb); clear HO_15; clear BK245; clear HB; have HO_15 := n0_; have HO252 := n1_; have BK245 := n2_; have HB := n3_; clear n0_ n1_ n2_ n3_; (try clear hb); (try clear hb2); (try clear hk); (try clear hi); (try clear ho0); obtain ⟨Ao14, co14, eo14⟩ := Kd.R_slice HO252.out; subst eo14) | ((with_reducible refine gate_callee (f := 34) rfl ?_); refine goesL_ (some 24) rfl rfl Tryz.func34 (by kernel_rfl) rfl #[.slice Ao14 t250.length co14, .int .i64 0] rfl goa_ ?_; (with_reducible refine (line_Read.calls k1 _ _ t250 0 t253 t254 t255 t256 t257 _ ?side1 ?side2 A10.out).mono ?_); (case side1 => repeat (first | exact (Kd.R_reads' HO252.out).2.2 | (with_reducible refine Kd.C_alloc ?_ _) | (with_reducible refine Kd.C_drewN ?_ _) | (with_reducible refine Kd.C_drew ?_))); (case side2 => exact (Kd.R_reads' HO252.out).2.1); rintro e w15 ⟨rfl, hb⟩; refine ⟨_, rfl, ?_⟩; have n0_ := Aside0.mk (Kd.R_below (by (with_reducible repeat (first | apply Kd.R_alloc | apply Kd.R_drewN | apply Kd.R_drew)); exact HO_15.out) hb); have n1_ := Aside0.mk (Kd.R_below (by (with_reducible repeat (first | apply Kd.R_alloc | apply Kd.R_drewN | apply Kd.R_drew)); exact HO252.out) hb); have n2_ := blb_ BK245 hb; have n3_ := Aside0.mk (below_step bel_ hb); clear HO_15; clear HO252; clear BK245; clear HB; have HO_15 := n0_; have HO252 := n1_; have BK245 := n2_; have HB := n3_; clear n0_ n1_ n2_ n3_; clear hb) | ((with_reducible refine gate_dst (N := 4) rfl ?_); refine box_event ?hg (N := 4) ?hd (cs := #[.int .i64 0, .int .i64 0, .string (⟨#[]⟩ : ByteArray)]) (t := 32) ?hr ?_; (case hd => rfl); (case hg => rfl); (case hr => first | (go_simp; done) | (go_simp; rfl)); intro gb258 hg w16 hbox hb; have n0_ := Aside0.mk (Kd.R_below (by (with_reducible repeat (first | apply Kd.R_alloc | apply Kd.R_drewN | apply Kd.R_drew)); exact HO_15.out) hb); have n1_ := Aside0.mk (Kd.R_below (by (with_reducible repeat (first | apply Kd.R_alloc | apply Kd.R_drewN | apply Kd.R_drew)); exact HO252.out) hb); have n2_ := blb_ BK245 hb; have n3_ := Aside0.mk (below_step bel_ hb); have n4_ := Aside0.mk (hbox); have n5_ := Aside0.mk ((bsz_ hg : w.heap.size ≤ gb258)); have n6_ := Aside0.mk ((bsz_ hg : w.heap.size ≤ gb258)); have n7_ := Aside0.mk (bne_ BK245 hg : gb245 ≠ gb258); have n8_ := Aside0.mk (bng_ BK245 hg : gb258 ≠ gb245); clear HO_15; clear HO252; clear BK245; clear HB; have HO_15 := n0_; have HO252 := n1_; have BK245 := n2_; have HB := n3_; have BK258 := n4_; have GW258 := n5_; have GE258 := n6_; have NB245_258 := n7_; have NB258_245 := n8_; clear n0_ n1_ n2_ n3_ n4_ n5_ n6_ n7_ n8_; clear hb hbox hg; have hnb17 := NB258_245.out; have hnc17 := NB245_258.out; have hcz18_0 : w16.cell? ⟨gb258, 0, none⟩ = some (.int .i64 0) := (blk_cell BK258.out 0).trans rfl; have hcz18_1 : w16.cell? ⟨gb258, 1, none⟩ = some (.int .i64 0) := (blk_cell BK258.out 1).trans rfl; have hcz18_2 : w16.cell? ⟨gb258, 2, none⟩ = some (.string (⟨#[]⟩ : ByteArray)) := (blk_cell BK258.out 2).trans rfl; have hfz18_0 := blk_frozen BK258.out 0; have hfz18_1 := blk_frozen BK258.out 1; have hfz18_2 := blk_frozen BK258.out 2; have hcz19_0 : w16.cell? ⟨gb245, 0, none⟩ = some (.int .i64 4) := (blk_cell BK245.out 0).trans rfl; have hcz19_1 : w16.cell? ⟨gb245, 1, none⟩ = some (.int .i64 2) := (blk_cell BK245.out 1).trans rfl; have hcz19_2 : w16.cell? ⟨gb245, 2, none⟩ = some (.string (⟨#[97]⟩ : ByteArray)) := (blk_cell BK245.out 2).trans rfl; have hfz19_0 := blk_frozen BK245.out 0; have hfz19_1 := blk_frozen BK245.out 1; have hfz19_2 := blk_frozen BK245.out 2))
        go_roundg k1
        case measure => have := HK1.out; omega
        case rel => exact ⟨(wrap64 (x17_1 + 1)), rfs_, H', ⟨by have := HK1.out; omega⟩, ⟨by (with_reducible repeat (first | apply Kd.R_alloc | apply Kd.R_drewN | apply Kd.R_drew)); exact Kd.R_mono (Kd.R_far (p := ⟨gb258, 2, none⟩) (Kd.R_far (p := ⟨gb258, 1, none⟩) (Kd.R_far (p := ⟨gb258, 0, none⟩) (Kd.R_types HO_15.out BK258.out (by decide)) (fun _ hk => hk.2) (.int .i64 t253)) (fun _ hk => hk.2) (.int .i64 t254)) (fun _ hk => hk.2) (.string t255)) (fun _ hk => trivial)⟩, ⟨by (with_reducible repeat (first | refine blk_drewN ?_ _ | refine blk_drew ?_ | refine blk_alloc ?_ _)); refine blk_far ?_ NB245_258.out _; (with_reducible repeat (first | refine blk_drewN ?_ _ | refine blk_drew ?_ | refine blk_alloc ?_ _)); refine blk_far ?_ NB245_258.out _; (with_reducible repeat (first | refine blk_drewN ?_ _ | refine blk_drew ?_ | refine blk_alloc ?_ _)); refine blk_far ?_ NB245_258.out _; (with_reducible repeat (first | refine blk_drewN ?_ _ | refine blk_drew ?_ | refine blk_alloc ?_ _)); exact BK245.out⟩, ⟨bel_⟩⟩
      ·rw [if_neg c11] at H
       exact absurd H (by simp)
     ·rw [if_neg c8] at H
      exact absurd H (by simp)
    ·rw [if_neg c7] at H
     exact absurd H (by simp)
   ·rw [if_neg c6] at H
    have c6b0 : decide (x17_1 < (y246.length : Int)) = false := decide_eq_false c6
    clear c6
    replace H := Option.bind_eq_some_iff.mp H
    obtain ⟨t259, A200, H⟩ := H
    try dsimp only at H
    have A20 := Aside0.mk A200
    clear A200
    replace H := Option.bind_eq_some_iff.mp H
    obtain ⟨⟨t262, t263, t264, t265, t266, t267, t268, t269⟩, A210, H⟩ := H
    try dsimp only at H
    have A21 := Aside0.mk A210
    clear A210
    replace H := Option.bind_eq_some_iff.mp H
    obtain ⟨t272, A220, H⟩ := H
    try dsimp only at H
    have A22 := Aside0.mk A220
    clear A220
    replace H := Option.bind_eq_some_iff.mp H
    obtain ⟨⟨t275, t276, t277, t278, t279⟩, A230, H⟩ := H
    try dsimp only at H
    have A23 := Aside0.mk A230
    clear A230
    by_cases c24 : t269 = 0
    ·rw [if_pos c24] at H
     have c24b0 : (t269 == 0) = true := beq_iff_eq.mpr c24
     have c24b1 : (t269 != 0) = false := bne_eq_false_iff_eq.mpr c24
     clear c24
     by_cases c25 : (t262 == t265 && (t263 == t266 && (t264.toList == t267.toList))) = true
     ·rw [if_pos c25] at H
      have c25b0 : (t262 == t265 && (t263 == t266 && (t264.toList == t267.toList))) = true := c25
      (try (have c25b1 : decide (t262 = t265 && (t263 == t266 && (t264.toList == t267.toList))) = true := by simpa using c25))
      (try (have c25b2 : (t262 == t265 && (t263 == t266 && (t264.toList == t267.toList))) = true := by simpa using c25))
      clear c25
      by_cases c26 : t264.toList = ([97] : List UInt8)
      ·rw [if_pos c26] at H
       have c26b0 : (t264.toList == ([97] : List UInt8)) = true := beq_iff_eq.mpr c26
       have c26b1 : (t264.toList != ([97] : List UInt8)) = false := bne_eq_false_iff_eq.mpr c26
       clear c26
       obtain rfl := Option.some.inj H
       go_wp2_with (first | ((with_reducible refine gate_callee (f := 35) rfl ?_); refine goesL_ (some 37) rfl rfl Tryz.func35 (by kernel_rfl) rfl #[.string (⟨#[97]⟩ : ByteArray)] rfl goa_ ?_; (with_reducible refine (parterrelaw07_words.calls k1 (⟨#[97]⟩ : ByteArray) t259 _ A20.out).mono ?_); rintro e w27 ⟨v260, rfl, ho0, hb⟩; refine ⟨_, rfl, ?_⟩; have n0_ := Aside0.mk (Kd.R_below (by (with_reducible repeat (first | apply Kd.R_alloc | apply Kd.R_drewN | apply Kd.R_drew)); exact HO_15.out) hb); have n1_ := Aside0.mk (Kd.R_lower ho0 (below_size bel_)); have n2_ := blb_ BK245 hb; have n3_ := Aside0.mk (below_step bel_ hb); clear HO_15; clear BK245; clear HB; have HO_15 := n0_; have HO261 := n1_; have BK245 := n2_; have HB := n3_; clear n0_ n1_ n2_ n3_; (try clear hb); (try clear hb2); (try clear hk); (try clear hi); (try clear ho0); obtain ⟨Ao28, co28, eo28⟩ := Kd.R_slice HO261.out; subst eo28) | ((with_reducible refine gate_callee (f := 36) rfl ?_); refine goesL_ (some 38) rfl rfl Tryz.func36 (by kernel_rfl) rfl #[.slice Ao28 t259.length co28, .int .i64 0] rfl goa_ ?_; (with_reducible refine (line_Pair.calls k1 _ _ t259 0 t262 t263 t264 t265 t266 t267 t268 t269 _ ?side1 ?side2 A21.out).mono ?_); (case side1 => repeat (first | exact (Kd.R_reads' HO261.out).2.2 | (with_reducible refine Kd.C_alloc ?_ _) | (with_reducible refine Kd.C_drewN ?_ _) | (with_reducible refine Kd.C_drew ?_))); (case side2 => exact (Kd.R_reads' HO261.out).2.1); rintro e w29 ⟨rfl, hb⟩; refine ⟨_, rfl, ?_⟩; have n0_ := Aside0.mk (Kd.R_below (by (with_reducible repeat (first | apply Kd.R_alloc | apply Kd.R_drewN | apply Kd.R_drew)); exact HO_15.out) hb); have n1_ := Aside0.mk (Kd.R_below (by (with_reducible repeat (first | apply Kd.R_alloc | apply Kd.R_drewN | apply Kd.R_drew)); exact HO261.out) hb); have n2_ := blb_ BK245 hb; have n3_ := Aside0.mk (below_step bel_ hb); clear HO_15; clear HO261; clear BK245; clear HB; have HO_15 := n0_; have HO261 := n1_; have BK245 := n2_; have HB := n3_; clear n0_ n1_ n2_ n3_; clear hb) | ((with_reducible refine gate_dst (N := 7) rfl ?_); refine box_event ?hg (N := 7) ?hd (cs := #[.int .i64 0, .int .i64 0, .string (⟨#[]⟩ : ByteArray)]) (t := 32) ?hr ?_; (case hd => rfl); (case hg => rfl); (case hr => first | (go_simp; done) | (go_simp; rfl)); intro gb270 hg w30 hbox hb; have n0_ := Aside0.mk (Kd.R_below (by (with_reducible repeat (first | apply Kd.R_alloc | apply Kd.R_drewN | apply Kd.R_drew)); exact HO_15.out) hb); have n1_ := Aside0.mk (Kd.R_below (by (with_reducible repeat (first | apply Kd.R_alloc | apply Kd.R_drewN | apply Kd.R_drew)); exact HO261.out) hb); have n2_ := blb_ BK245 hb; have n3_ := Aside0.mk (below_step bel_ hb); have n4_ := Aside0.mk (hbox); have n5_ := Aside0.mk ((bsz_ hg : w.heap.size ≤ gb270)); have n6_ := Aside0.mk ((bsz_ hg : w.heap.size ≤ gb270)); have n7_ := Aside0.mk (bne_ BK245 hg : gb245 ≠ gb270); have n8_ := Aside0.mk (bng_ BK245 hg : gb270 ≠ gb245); clear HO_15; clear HO261; clear BK245; clear HB; have HO_15 := n0_; have HO261 := n1_; have BK245 := n2_; have HB := n3_; have BK270 := n4_; have GW270 := n5_; have GE270 := n6_; have NB245_270 := n7_; have NB270_245 := n8_; clear n0_ n1_ n2_ n3_ n4_ n5_ n6_ n7_ n8_; clear hb hbox hg) | ((with_reducible refine gate_dst (N := 8) rfl ?_); refine box_event ?hg (N := 8) ?hd (cs := #[.int .i64 0, .int .i64 0, .string (⟨#[]⟩ : ByteArray)]) (t := 32) ?hr ?_; (case hd => rfl); (case hg => rfl); (case hr => first | (go_simp; done) | (go_simp; rfl)); intro gb271 hg w31 hbox hb; have n0_ := Aside0.mk (Kd.R_below (by (with_reducible repeat (first | apply Kd.R_alloc | apply Kd.R_drewN | apply Kd.R_drew)); exact HO_15.out) hb); have n1_ := Aside0.mk (Kd.R_below (by (with_reducible repeat (first | apply Kd.R_alloc | apply Kd.R_drewN | apply Kd.R_drew)); exact HO261.out) hb); have n2_ := blb_ BK245 hb; have n3_ := blb_ BK270 hb; have n4_ := Aside0.mk (below_step bel_ hb); have n5_ := Aside0.mk (hbox); have n6_ := Aside0.mk ((bsz_ hg : w.heap.size ≤ gb271)); have n7_ := Aside0.mk ((bsz_ hg : w.heap.size ≤ gb271)); have n8_ := Aside0.mk (bne_ BK245 hg : gb245 ≠ gb271); have n9_ := Aside0.mk (bng_ BK245 hg : gb271 ≠ gb245); have n10_ := Aside0.mk (bne_ BK270 hg : gb270 ≠ gb271); have n11_ := Aside0.mk (bng_ BK270 hg : gb271 ≠ gb270); clear HO_15; clear HO261; clear BK245; clear BK270; clear HB; have HO_15 := n0_; have HO261 := n1_; have BK245 := n2_; have BK270 := n3_; have HB := n4_; have BK271 := n5_; have GW271 := n6_; have GE271 := n7_; have NB245_271 := n8_; have NB271_245 := n9_; have NB270_271 := n10_; have NB271_270 := n11_; clear n0_ n1_ n2_ n3_ n4_ n5_ n6_ n7_ n8_ n9_ n10_ n11_; clear hb hbox hg; have hnb32 := NB270_245.out; have hnc32 := NB245_270.out; have hnb33 := NB270_271.out; have hnc33 := NB271_270.out; have hcz34_0 : w31.cell? ⟨gb270, 0, none⟩ = some (.int .i64 0) := (blk_cell BK270.out 0).trans rfl; have hcz34_1 : w31.cell? ⟨gb270, 1, none⟩ = some (.int .i64 0) := (blk_cell BK270.out 1).trans rfl; have hcz34_2 : w31.cell? ⟨gb270, 2, none⟩ = some (.string (⟨#[]⟩ : ByteArray)) := (blk_cell BK270.out 2).trans rfl; have hfz34_0 := blk_frozen BK270.out 0; have hfz34_1 := blk_frozen BK270.out 1; have hfz34_2 := blk_frozen BK270.out 2; have hnb35 := NB271_245.out; have hnc35 := NB245_271.out; have hcz36_0 : w31.cell? ⟨gb271, 0, none⟩ = some (.int .i64 0) := (blk_cell BK271.out 0).trans rfl; have hcz36_1 : w31.cell? ⟨gb271, 1, none⟩ = some (.int .i64 0) := (blk_cell BK271.out 1).trans rfl; have hcz36_2 : w31.cell? ⟨gb271, 2, none⟩ = some (.string (⟨#[]⟩ : ByteArray)) := (blk_cell BK271.out 2).trans rfl; have hfz36_0 := blk_frozen BK271.out 0; have hfz36_1 := blk_frozen BK271.out 1; have hfz36_2 := blk_frozen BK271.out 2) | ((with_reducible refine gate_callee (f := 35) rfl ?_); refine goesL_ (some 44) rfl rfl Tryz.func35 (by kernel_rfl) rfl #[.string (⟨#[48]⟩ : ByteArray)] rfl goa_ ?_; (with_reducible refine (parterrelaw07_words.calls k1 (⟨#[48]⟩ : ByteArray) t272 _ A22.out).mono ?_); rintro e w37 ⟨v273, rfl, ho0, hb⟩; refine ⟨_, rfl, ?_⟩; have n0_ := Aside0.mk (Kd.R_below (by (with_reducible repeat (first | apply Kd.R_alloc | apply Kd.R_drewN | apply Kd.R_drew)); exact (Kd.R_mono (Kd.R_mono (Kd.R_far (p := ⟨gb271, 2, none⟩) (Kd.R_far (p := ⟨gb271, 1, none⟩) (Kd.R_far (p := ⟨gb271, 0, none⟩) (Kd.R_far (p := ⟨gb270, 2, none⟩) (Kd.R_far (p := ⟨gb270, 1, none⟩) (Kd.R_far (p := ⟨gb270, 0, none⟩) (Kd.R_types (Kd.R_types HO_15.out BK270.out (by decide)) BK271.out (by decide)) (fun _ hk => hk.1.2) (.int .i64 t262)) (fun _ hk => hk.1.2) (.int .i64 t263)) (fun _ hk => hk.1.2) (.string t264)) (fun _ hk => hk.2) (.int .i64 t265)) (fun _ hk => hk.2) (.int .i64 t266)) (fun _ hk => hk.2) (.string t267)) (fun _ h_ => h_.1)) (fun _ h_ => h_.1))) hb); have n1_ := Aside0.mk (Kd.R_elder' (by (with_reducible repeat (first | apply Kd.R_alloc | apply Kd.R_drewN | apply Kd.R_drew)); exact (Kd.R_mono (Kd.R_mono (Kd.R_far (p := ⟨gb271, 2, none⟩) (Kd.R_far (p := ⟨gb271, 1, none⟩) (Kd.R_far (p := ⟨gb271, 0, none⟩) (Kd.R_far (p := ⟨gb270, 2, none⟩) (Kd.R_far (p := ⟨gb270, 1, none⟩) (Kd.R_far (p := ⟨gb270, 0, none⟩) (Kd.R_types (Kd.R_types HO261.out BK270.out (by decide)) BK271.out (by decide)) (fun _ hk => hk.1.2) (.int .i64 t262)) (fun _ hk => hk.1.2) (.int .i64 t263)) (fun _ hk => hk.1.2) (.string t264)) (fun _ hk => hk.2) (.int .i64 t265)) (fun _ hk => hk.2) (.int .i64 t266)) (fun _ hk => hk.2) (.string t267)) (fun _ h_ => h_.1)) (fun _ h_ => h_.1))) (Kd.R_base ho0) hb); have n2_ := Aside0.mk (Kd.R_lower (Kd.R_new' ho0 (Kd.R_lt (by (with_reducible repeat (first | apply Kd.R_alloc | apply Kd.R_drewN | apply Kd.R_drew)); exact (Kd.R_mono (Kd.R_mono (Kd.R_far (p := ⟨gb271, 2, none⟩) (Kd.R_far (p := ⟨gb271, 1, none⟩) (Kd.R_far (p := ⟨gb271, 0, none⟩) (Kd.R_far (p := ⟨gb270, 2, none⟩) (Kd.R_far (p := ⟨gb270, 1, none⟩) (Kd.R_far (p := ⟨gb270, 0, none⟩) (Kd.R_types (Kd.R_types HO261.out BK270.out (by decide)) BK271.out (by decide)) (fun _ hk => hk.1.2) (.int .i64 t262)) (fun _ hk => hk.1.2) (.int .i64 t263)) (fun _ hk => hk.1.2) (.string t264)) (fun _ hk => hk.2) (.int .i64 t265)) (fun _ hk => hk.2) (.int .i64 t266)) (fun _ hk => hk.2) (.string t267)) (fun _ h_ => h_.1)) (fun _ h_ => h_.1))))) (below_size bel_)); have n3_ := Aside0.mk (blk_below (g := gb245) (o := .cells #[.int .i64 4, .int .i64 2, .string (⟨#[97]⟩ : ByteArray)] 32 (0, 0)) (by (with_reducible repeat (first | refine blk_drewN ?_ _ | refine blk_drew ?_ | refine blk_alloc ?_ _)); refine blk_far ?_ NB245_271.out _; (with_reducible repeat (first | refine blk_drewN ?_ _ | refine blk_drew ?_ | refine blk_alloc ?_ _)); refine blk_far ?_ NB245_271.out _; (with_reducible repeat (first | refine blk_drewN ?_ _ | refine blk_drew ?_ | refine blk_alloc ?_ _)); refine blk_far ?_ NB245_271.out _; (with_reducible repeat (first | refine blk_drewN ?_ _ | refine blk_drew ?_ | refine blk_alloc ?_ _)); refine blk_far ?_ NB245_270.out _; (with_reducible repeat (first | refine blk_drewN ?_ _ | refine blk_drew ?_ | refine blk_alloc ?_ _)); refine blk_far ?_ NB245_270.out _; (with_reducible repeat (first | refine blk_drewN ?_ _ | refine blk_drew ?_ | refine blk_alloc ?_ _)); refine blk_far ?_ NB245_270.out _; (with_reducible repeat (first | refine blk_drewN ?_ _ | refine blk_drew ?_ | refine blk_alloc ?_ _)); exact BK245.out) hb); have n4_ := Aside0.mk (blk_below (g := gb270) (o := .cells #[.int .i64 t262, .int .i64 t263, .string t264] 32 (0, 0)) (by (with_reducible repeat (first | refine blk_drewN ?_ _ | refine blk_drew ?_ | refine blk_alloc ?_ _)); refine blk_far ?_ NB270_271.out _; (with_reducible repeat (first | refine blk_drewN ?_ _ | refine blk_drew ?_ | refine blk_alloc ?_ _)); refine blk_far ?_ NB270_271.out _; (with_reducible repeat (first | refine blk_drewN ?_ _ | refine blk_drew ?_ | refine blk_alloc ?_ _)); refine blk_far ?_ NB270_271.out _; (with_reducible repeat (first | refine blk_drewN ?_ _ | refine blk_drew ?_ | refine blk_alloc ?_ _)); refine blk_put (cs := #[.int .i64 t262, .int .i64 t263, .string (⟨#[]⟩ : ByteArray)]) ?_ 2 _ rfl; (with_reducible repeat (first | refine blk_drewN ?_ _ | refine blk_drew ?_ | refine blk_alloc ?_ _)); refine blk_put (cs := #[.int .i64 t262, .int .i64 0, .string (⟨#[]⟩ : ByteArray)]) ?_ 1 _ rfl; (with_reducible repeat (first | refine blk_drewN ?_ _ | refine blk_drew ?_ | refine blk_alloc ?_ _)); refine blk_put (cs := #[.int .i64 0, .int .i64 0, .string (⟨#[]⟩ : ByteArray)]) ?_ 0 _ rfl; (with_reducible repeat (first | refine blk_drewN ?_ _ | refine blk_drew ?_ | refine blk_alloc ?_ _)); exact BK270.out) hb); have n5_ := Aside0.mk (blk_below (g := gb271) (o := .cells #[.int .i64 t265, .int .i64 t266, .string t267] 32 (0, 0)) (by (with_reducible repeat (first | refine blk_drewN ?_ _ | refine blk_drew ?_ | refine blk_alloc ?_ _)); refine blk_put (cs := #[.int .i64 t265, .int .i64 t266, .string (⟨#[]⟩ : ByteArray)]) ?_ 2 _ rfl; (with_reducible repeat (first | refine blk_drewN ?_ _ | refine blk_drew ?_ | refine blk_alloc ?_ _)); refine blk_put (cs := #[.int .i64 t265, .int .i64 0, .string (⟨#[]⟩ : ByteArray)]) ?_ 1 _ rfl; (with_reducible repeat (first | refine blk_drewN ?_ _ | refine blk_drew ?_ | refine blk_alloc ?_ _)); refine blk_put (cs := #[.int .i64 0, .int .i64 0, .string (⟨#[]⟩ : ByteArray)]) ?_ 0 _ rfl; (with_reducible repeat (first | refine blk_drewN ?_ _ | refine blk_drew ?_ | refine blk_alloc ?_ _)); refine blk_far ?_ NB271_270.out _; (with_reducible repeat (first | refine blk_drewN ?_ _ | refine blk_drew ?_ | refine blk_alloc ?_ _)); refine blk_far ?_ NB271_270.out _; (with_reducible repeat (first | refine blk_drewN ?_ _ | refine blk_drew ?_ | refine blk_alloc ?_ _)); refine blk_far ?_ NB271_270.out _; (with_reducible repeat (first | refine blk_drewN ?_ _ | refine blk_drew ?_ | refine blk_alloc ?_ _)); exact BK271.out) hb); have n6_ := Aside0.mk (below_step bel_ hb); clear HO_15; clear HO261; clear BK245; clear BK270; clear BK271; clear HB; have HO_15 := n0_; have HO261 := n1_; have HO274 := n2_; have BK245 := n3_; have BK270 := n4_; have BK271 := n5_; have HB := n6_; clear n0_ n1_ n2_ n3_ n4_ n5_ n6_; (try clear hb); (try clear hb2); (try clear hk); (try clear hi); (try clear ho0); obtain ⟨Ao38, co38, eo38⟩ := Kd.R_slice HO274.out; subst eo38) | ((with_reducible refine gate_callee (f := 34) rfl ?_); refine goesL_ (some 45) rfl rfl Tryz.func34 (by kernel_rfl) rfl #[.slice Ao38 t272.length co38, .int .i64 0] rfl goa_ ?_; (with_reducible refine (line_Read.calls k1 _ _ t272 0 t275 t276 t277 t278 t279 _ ?side1 ?side2 A23.out).mono ?_); (case side1 => repeat (first | exact (Kd.R_reads' HO274.out).2.2 | (with_reducible refine Kd.C_alloc ?_ _) | (with_reducible refine Kd.C_drewN ?_ _) | (with_reducible refine Kd.C_drew ?_))); (case side2 => exact (Kd.R_reads' HO274.out).2.1); rintro e w39 ⟨rfl, hb⟩; refine ⟨_, rfl, ?_⟩; have n0_ := Aside0.mk (Kd.R_below (by (with_reducible repeat (first | apply Kd.R_alloc | apply Kd.R_drewN | apply Kd.R_drew)); exact HO_15.out) hb); have n1_ := Aside0.mk (Kd.R_below (by (with_reducible repeat (first | apply Kd.R_alloc | apply Kd.R_drewN | apply Kd.R_drew)); exact HO261.out) hb); have n2_ := Aside0.mk (Kd.R_below (by (with_reducible repeat (first | apply Kd.R_alloc | apply Kd.R_drewN | apply Kd.R_drew)); exact HO274.out) hb); have n3_ := blb_ BK245 hb; have n4_ := blb_ BK270 hb; have n5_ := blb_ BK271 hb; have n6_ := Aside0.mk (below_step bel_ hb); clear HO_15; clear HO261; clear HO274; clear BK245; clear BK270; clear BK271; clear HB; have HO_15 := n0_; have HO261 := n1_; have HO274 := n2_; have BK245 := n3_; have BK270 := n4_; have BK271 := n5_; have HB := n6_; clear n0_ n1_ n2_ n3_ n4_ n5_ n6_; clear hb) | ((with_reducible refine gate_dst (N := 11) rfl ?_); refine box_event ?hg (N := 11) ?hd (cs := #[.int .i64 0, .int .i64 0, .string (⟨#[]⟩ : ByteArray)]) (t := 32) ?hr ?_; (case hd => rfl); (case hg => rfl); (case hr => first | (go_simp; done) | (go_simp; rfl)); intro gb280 hg w40 hbox hb; have n0_ := Aside0.mk (Kd.R_below (by (with_reducible repeat (first | apply Kd.R_alloc | apply Kd.R_drewN | apply Kd.R_drew)); exact HO_15.out) hb); have n1_ := Aside0.mk (Kd.R_below (by (with_reducible repeat (first | apply Kd.R_alloc | apply Kd.R_drewN | apply Kd.R_drew)); exact HO261.out) hb); have n2_ := Aside0.mk (Kd.R_below (by (with_reducible repeat (first | apply Kd.R_alloc | apply Kd.R_drewN | apply Kd.R_drew)); exact HO274.out) hb); have n3_ := blb_ BK245 hb; have n4_ := blb_ BK270 hb; have n5_ := blb_ BK271 hb; have n6_ := Aside0.mk (below_step bel_ hb); have n7_ := Aside0.mk (hbox); have n8_ := Aside0.mk ((bsz_ hg : w.heap.size ≤ gb280)); have n9_ := Aside0.mk ((bsz_ hg : w.heap.size ≤ gb280)); have n10_ := Aside0.mk (bne_ BK245 hg : gb245 ≠ gb280); have n11_ := Aside0.mk (bng_ BK245 hg : gb280 ≠ gb245); have n12_ := Aside0.mk (bne_ BK270 hg : gb270 ≠ gb280); have n13_ := Aside0.mk (bng_ BK270 hg : gb280 ≠ gb270); have n14_ := Aside0.mk (bne_ BK271 hg : gb271 ≠ gb280); have n15_ := Aside0.mk (bng_ BK271 hg : gb280 ≠ gb271); clear HO_15; clear HO261; clear HO274; clear BK245; clear BK270; clear BK271; clear HB; have HO_15 := n0_; have HO261 := n1_; have HO274 := n2_; have BK245 := n3_; have BK270 := n4_; have BK271 := n5_; have HB := n6_; have BK280 := n7_; have GW280 := n8_; have GE280 := n9_; have NB245_280 := n10_; have NB280_245 := n11_; have NB270_280 := n12_; have NB280_270 := n13_; have NB271_280 := n14_; have NB280_271 := n15_; clear n0_ n1_ n2_ n3_ n4_ n5_ n6_ n7_ n8_ n9_ n10_ n11_ n12_ n13_ n14_ n15_; clear hb hbox hg; have hnb41 := NB280_245.out; have hnc41 := NB245_280.out; have hnb42 := NB280_270.out; have hnc42 := NB270_280.out; have hnb43 := NB280_271.out; have hnc43 := NB271_280.out; have hcz44_0 : w40.cell? ⟨gb280, 0, none⟩ = some (.int .i64 0) := (blk_cell BK280.out 0).trans rfl; have hcz44_1 : w40.cell? ⟨gb280, 1, none⟩ = some (.int .i64 0) := (blk_cell BK280.out 1).trans rfl; have hcz44_2 : w40.cell? ⟨gb280, 2, none⟩ = some (.string (⟨#[]⟩ : ByteArray)) := (blk_cell BK280.out 2).trans rfl; have hfz44_0 := blk_frozen BK280.out 0; have hfz44_1 := blk_frozen BK280.out 1; have hfz44_2 := blk_frozen BK280.out 2; have hcz45_0 : w40.cell? ⟨gb270, 0, none⟩ = some (.int .i64 t262) := (blk_cell BK270.out 0).trans rfl; have hcz45_1 : w40.cell? ⟨gb270, 1, none⟩ = some (.int .i64 t263) := (blk_cell BK270.out 1).trans rfl; have hcz45_2 : w40.cell? ⟨gb270, 2, none⟩ = some (.string t264) := (blk_cell BK270.out 2).trans rfl; have hfz45_0 := blk_frozen BK270.out 0; have hfz45_1 := blk_frozen BK270.out 1; have hfz45_2 := blk_frozen BK270.out 2; have hcz46_0 : w40.cell? ⟨gb271, 0, none⟩ = some (.int .i64 t265) := (blk_cell BK271.out 0).trans rfl; have hcz46_1 : w40.cell? ⟨gb271, 1, none⟩ = some (.int .i64 t266) := (blk_cell BK271.out 1).trans rfl; have hcz46_2 : w40.cell? ⟨gb271, 2, none⟩ = some (.string t267) := (blk_cell BK271.out 2).trans rfl; have hfz46_0 := blk_frozen BK271.out 0; have hfz46_1 := blk_frozen BK271.out 1; have hfz46_2 := blk_frozen BK271.out 2))
       go_ret
       exact ⟨rsl_, bel_⟩
      ·rw [if_neg c26] at H
       exact absurd H (by simp)
     ·rw [if_neg c25] at H
      exact absurd H (by simp)
    ·rw [if_neg c24] at H
     exact absurd H (by simp)

end Go.Proofs.YtofdhdafabmhmaaGreatDoor.PLt
end
