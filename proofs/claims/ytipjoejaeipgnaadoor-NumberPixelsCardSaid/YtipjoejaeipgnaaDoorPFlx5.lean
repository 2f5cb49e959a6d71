-- Written by a program of this session (wip/p2) out of the translation; Lean checks it.
import Derived.Test.YtipjoejaeipgnaaDoorPFlx0
import Derived.Test.YtipjoejaeipgnaaDoorPFlx1
import Derived.Test.YtipjoejaeipgnaaDoorPFlx2
import Derived.Test.YtipjoejaeipgnaaDoorPFlx3
import Derived.Test.YtipjoejaeipgnaaDoorPFlx4
import Derived.BigRegion
import Derived.Lib.ConvBytes
import Derived.Test.YtipjoejaeipgnaaDoorSq
namespace Go.Proofs.YtipjoejaeipgnaaDoor.PFl
open Go.RowKit Go.Proofs.YtipjoejaeipgnaaDoorW.PrintWords Go.Proofs.YtipjoejaeipgnaaDoorW.PrintLast Go.Proofs.YtipjoejaeipgnaaDoorW.PrintMore
attribute [local go_sem] max2_int min2_int max_two min_two max_three min_three max_four min_four   -- for this text's walks alone
set_option linter.unusedVariables false
set_option linter.unusedSimpArgs false
open Go.Proofs.YtipjoejaeipgnaaDoor.Opn Go.Proofs.YtipjoejaeipgnaaDoor.Giv

/-! ### number_Value: function 18 -/
def number_Value.dig (c : Int) : Int := (c - 48) % 256
def number_Value.at (s : ByteArray) (i j : Nat) : Int := if j < i then number_Value.dig (bt s j) else bt s j
def number_Value.digs (s : ByteArray) : List Int := (List.range s.size).map fun j => number_Value.dig (bt s (j : Nat))
def number_Value.f (k : Nat) (a0 : ByteArray) (a1 : Int) : Option (Int × Int) :=
  (number_isScale.f a1).bind fun b => if b = true then ((number_parts.f a0).bind fun t => if t.2.2.2.2 = 0 ∨ t.2.2.2.2 ≠ (a0.size : Int) ∨ 300 < (a0.size : Int) then some (0, 21) else
    (if t.2.1.size + t.2.2.1.size ≤ 140737488351232 then ((number_text_exponent.f k t.1 t.2.1 t.2.2.1 t.2.2.2.1 t.2.2.2.2).bind fun x => (number_scaled.f k (number_Value.digs (t.2.1 ++ t.2.2.1)) (wrap64 ((t.2.1.size : Int) + x)) a1).bind fun q =>
      if q.2 = true then (if t.1 = true then some (wrap64 (-q.1), 0) else some (q.1, 0)) else some (0, 10)) else none)) else some (0, 2)
theorem number_Value.mono : ∀ a0 a1 k, LeO (number_Value.f k a0 a1) (number_Value.f (k + 1) a0 a1) := by
  intro a0 a1 k
  unfold number_Value.f
  repeat' first
      | (with_reducible exact number_text_exponent.mono _ _ _ _ _ _)
      | (with_reducible exact number_scaled.mono _ _ _ _)
      | (with_reducible exact LeO.refl _)
      | (with_reducible exact LeO.none _)
      | (with_reducible refine LeO.ite ?_ ?_)
      | (with_reducible refine LeO.bind ?_ (fun _ => ?_))

/-- The parts' block, and the digits' block. -/
structure number_Value.Holds (w W : World) (gt gd : Nat) (c : Array Value) (s : ByteArray) (i : Nat) : Prop where
  b : Below w.heap.size w W
  ht : W.heap[gt]? = some (.cells c 43 (0, 0))
  lo : w.heap.size ≤ gt
  lt : gt < gd
  o : ∃ cs lo hi, W.heap[gd]? = some (.cells cs 5 (lo, hi)) ∧ (∀ j, j < s.size → cs[j]? = some (.int .u8 (number_Value.at s i j))) ∧ s.size ≤ lo
theorem number_Value.Holds.cell {w W : World} {gt gd : Nat} {c : Array Value} {s : ByteArray} {i : Nat} (h : number_Value.Holds w W gt gd c s i) {j : Nat} (hj : j < s.size) : W.cell? ⟨gd, j, none⟩ = some (.int .u8 (number_Value.at s i j)) := by
  obtain ⟨cs, lo, hi, h1, h2, h3⟩ := h.o
  rw [cell_of_row _ _ _ _ _ _ h1]
  exact h2 j hj
theorem number_Value.Holds.froz {w W : World} {gt gd : Nat} {c : Array Value} {s : ByteArray} {i : Nat} (h : number_Value.Holds w W gt gd c s i) {j : Nat} (hj : j < s.size) : W.frozen? ⟨gd, j, none⟩ = false := by
  obtain ⟨cs, lo, hi, h1, h2, h3⟩ := h.o
  have : ¬ lo ≤ j := by omega
  simp [World.frozen?, h1, this]
theorem number_Value.Holds.start {w W : World} {gt : Nat} {c : Array Value} (hb : Below w.heap.size w W) (ht : W.heap[gt]? = some (.cells c 43 (0, 0))) (hlo : w.heap.size ≤ gt) (s : ByteArray) : number_Value.Holds w (Lib.bytesWorld W 5 s) gt W.heap.size c s 0 := by
  refine ⟨bytes_below hb hb.size _ s, ?_, hlo, blk_lt ht, _, _, _, Lib.bytesWorld_at_new W _ s, fun j hj => ?_, ?_⟩
  · rw [Lib.bytesWorld_at_old W _ s gt (blk_lt ht)]
    exact ht
  · have h := Lib.bytesWorld_cell W 5 s j hj
    rw [cell_of_row _ _ _ _ _ _ (Lib.bytesWorld_at_new W _ s)] at h
    rw [h]
    have hb : number_Value.at s 0 j = bt s j := by simp [number_Value.at]
    rw [hb, ← bt_at s (j : Int) (by simpa using hj)]
    simp [List.getD_eq_getElem?_getD, hj]
    rfl
  · simp [Lib.bytesCells]
theorem number_Value.Holds.drewN {w W : World} {gt gd : Nat} {c : Array Value} {s : ByteArray} {i : Nat} (h : number_Value.Holds w W gt gd c s i) (n : Nat) : number_Value.Holds w (W.drewN n) gt gd c s i := ⟨number_parts.belowN h.b n, h.ht, h.lo, h.lt, h.o⟩
theorem number_Value.Holds.drew {w W : World} {gt gd : Nat} {c : Array Value} {s : ByteArray} {i : Nat} (h : number_Value.Holds w W gt gd c s i) : number_Value.Holds w W.drew gt gd c s i := ⟨below_drew1 h.b, blk_drew h.ht, h.lo, h.lt, h.o⟩
theorem number_Value.Holds.set {w W : World} {gt gd : Nat} {c : Array Value} {s : ByteArray} {i : Nat} (h : number_Value.Holds w W gt gd c s i) (v : Int) (hv : v = number_Value.dig (bt s (i : Nat))) : number_Value.Holds w (W.setCell ⟨gd, i, none⟩ (.int .u8 v)) gt gd c s (i + 1) := by
  obtain ⟨cs, lo, hi, h1, h2, h3⟩ := h.o
  refine ⟨below_set h.b (Nat.le_trans h.lo (Nat.le_of_lt h.lt)), blk_far h.ht (show gt ≠ gd from Nat.ne_of_lt h.lt) _, h.lo, h.lt, cs.setIfInBounds i (.int .u8 v), lo, hi, ?_, fun j hj => ?_, h3⟩
  · simp [World.setCell, Array.getElem?_modify, h1]
  · unfold number_Value.at
    rcases Nat.lt_trichotomy j i with h4 | rfl | h4
    · rw [Array.getElem?_setIfInBounds_ne (by omega), h2 j hj, if_pos (by omega)]
      unfold number_Value.at
      rw [if_pos h4]
    · have hs : j < cs.size := (Array.getElem?_eq_some_iff.1 (h2 j hj)).1
      rw [Array.getElem?_setIfInBounds_self_of_lt hs, if_pos (by omega), hv]
    · rw [Array.getElem?_setIfInBounds_ne (by omega), h2 j hj, if_neg (by omega)]
      unfold number_Value.at
      rw [if_neg (by omega)]
theorem number_Value.Holds.call {w W W' : World} {gt gd : Nat} {c : Array Value} {s : ByteArray} {i : Nat} (h : number_Value.Holds w W gt gd c s i) (hb : Below W.heap.size W W') : number_Value.Holds w W' gt gd c s i := by
  obtain ⟨cs, lo, hi, h1, h2, h3⟩ := h.o
  exact ⟨below_step h.b hb, blk_below h.ht hb, h.lo, h.lt, cs, lo, hi, blk_below h1 hb, h2, h3⟩
/-- What the digits' block says, wherever it lies as it lay. -/
theorem number_Value.Holds.row {w W : World} {gt gd : Nat} {c : Array Value} {s : ByteArray} (h : number_Value.Holds w W gt gd c s s.size) (hs : s.size ≤ 140737488351232) (cap base : Nat) (hc : s.size ≤ cap) : Kd.V (Kd.int .u8) 5 W base (fun k => k = gd) (.slice (some ⟨gd, 0, none⟩) (number_Value.digs s).length cap) (number_Value.digs s) := by
  have hl : (number_Value.digs s).length = s.size := by simp [number_Value.digs]
  refine Kd.V_mk (by omega) fun W' hW => ⟨rfl, by omega, fun _ => ⟨_, rfl, fun j p hp => ?_⟩⟩
  have hj : j < s.size := by
    have := (List.getElem?_eq_some_iff.1 hp).1
    omega
  have hcell := h.cell hj
  have hlt : gd < W.heap.size := World.block_lt_of_cell? W _ hcell
  have hcell' : W'.cell? ⟨gd, j, none⟩ = some (.int .u8 (number_Value.at s s.size j)) := by
    rw [← hcell]
    simp [World.cell?, hW gd rfl hlt]
  have hp2 : p = number_Value.at s s.size j := by
    unfold number_Value.digs at hp
    rw [List.getElem?_map, List.getElem?_range hj] at hp
    unfold number_Value.at
    rw [if_pos hj]
    exact (Option.some.inj hp).symm
  refine ⟨[.int .u8 p], rfl, rfl, fun i u hu => ?_⟩
  match i, hu with
  | 0, hu =>
    obtain rfl := Option.some.inj hu
    have : (j * (Kd.int .u8).sz + 0) = j := by show j * 1 + 0 = j; omega
    rw [this, add_plain, hcell', hp2]
theorem number_Value.next {i n : Nat} (h1 : i < n) (hs : n ≤ 140737488351232) : wrap64 ((i : Int) + 1) = ((i + 1 : Nat) : Int) := by
  unfold wrap64
  omega
theorem number_Value.less {i n : Nat} (h1 : i < n) (hw : wrap64 ((i : Int) + 1) = ((i + 1 : Nat) : Int)) : n - (intOf (.int .i64 (wrap64 ((i : Int) + 1)))).toNat < n - (intOf (.int .i64 (i : Int))).toNat := by
  rw [hw]
  show n - (((i + 1 : Nat) : Int)).toNat < n - ((i : Int)).toNat
  rw [Int.toNat_natCast, Int.toNat_natCast]
  clear hw
  omega

def number_Value.T12 : Bool × List (List Nat × List Nat) := (true,
  [([], []), ([], []), ([1], [1]), ([2], [2]), ([], []), ([4], [4]), ([3, 5], [3, 5]), ([], []),
    ([0, 6, 7, 5], [0, 6, 7]), ([8], [8]), ([9], [9]), ([9], [9]), ([10, 8, 0, 1, 2, 3, 4, 5, 6, 7, 8, 9, 10], [10]),
    ([11, 12, 0, 1, 2, 3, 4, 5, 6, 7, 8, 9, 10, 11, 12], [11])])
def number_Value.B12 : List Nat := [0, 0, 2, 6, 0, 16, 62, 0, 255, 511, 1023, 1023, 2047, 8191]
theorem number_Value.tab12 : rtab .any (opsOf Tryd.f18 12) = number_Value.T12 := by kernel_rfl
theorem number_Value.bits12 : waitsOk number_Value.T12.2 number_Value.B12 = true := by kernel_rfl

set_option maxHeartbeats 40000000 in
set_option maxRecDepth 100000 in
theorem number_Value.walk (k : Nat) (a0 : ByteArray) (a1 : Int) (t1 : Bool) (t2 t3 t4 : ByteArray) (t5 : Int) (x q1 : Int) (q2 : Bool) (w : World) (hsc : number_isScale.f a1 = some true) (hp : number_parts.f a0 = some (t1, t2, t3, t4, t5))
    (h5 : t5 ≠ 0) (h6 : t5 = (a0.size : Int)) (h7 : (a0.size : Int) ≤ 300) (hz : t2.size + t3.size ≤ 140737488351232) (hx : number_text_exponent.f k t1 t2 t3 t4 t5 = some x)
    (hq : number_scaled.f k (number_Value.digs (t2 ++ t3)) (wrap64 ((t2.size : Int) + x)) a1 = some (q1, q2)) :
    Calls Tryd.prog 18 #[.string a0, .int .i64 a1] w fun e w' => e = .returned (.tuple (if q2 = true then (if t1 = true then #[.int .i64 (wrap64 (-q1)), .int .i64 0] else #[.int .i64 q1, .int .i64 0]) else #[.int .i64 0, .int .i64 10])) ∧ Below w.heap.size w w' := by
  have hu := Tryd.underlying43
  have HSC := Aside0.mk hsc
  have HPT := Aside0.mk hp
  have HX := Aside0.mk hx
  have HQ := Aside0.mk hq
  have HZ := Aside0.mk hz
  obtain ⟨sd, hsd⟩ : ∃ sd, t2 ++ t3 = sd := ⟨_, rfl⟩
  have HSZ : Aside0 (sd.size ≤ 140737488351232) := ⟨by rw [← hsd, ByteArray.size_append]; exact hz⟩
  have HSD := Aside0.mk hsd
  have HB := Aside0.mk (Below.refl w.heap.size w)
  have e1 : (t5 == 0) = false := beq_eq_false_iff_ne.2 h5
  have e2 : (t5 != (a0.size : Int)) = false := by rw [h6]; simp
  have e3 : decide (300 < (a0.size : Int)) = false := decide_eq_false (by omega)
  have e4 : decide ((a0.size : Int) > 300) = false := decide_eq_false (by omega)
  have e5 : (9223372036854775807 < t2.size + t3.size) = False := eq_false (by omega)
  have e6 : (t2.size + t3.size ≤ 9223372036854775807) = True := eq_true (by omega)
  have kb := fun W s => print_bytes (P := Tryd.prog) 9 45 5 Tryd.underlying9 Tryd.underlying45 Tryd.underlying5 s W
  clear hsc hp hx hq hz h5 h6 h7
  go_enter Tryd.func18, Tryd.ntmps18
  go_upto_region 6 with (first
    | (go_at_call 23; refine (number_isScale.calls _ _ _ HSC.out).mono ?_; rintro e w1 ⟨rfl, ⟨n1, rfl⟩⟩)
    | (go_at_call 24; refine (number_parts.calls _ _ _ _ _ _ _ HPT.out).mono ?_; rintro e w2 ⟨rfl, hb⟩; have HB2 := Aside0.mk hb; clear hb)
    | ((with_reducible refine gate_dst (N := 6) rfl ?_); (try (refine gate_guard (by rfl) ?_; dsimp only)); refine box_event ?hg (N := 6) ?hd (cs := #[.bool false, .string (⟨#[]⟩ : ByteArray), .string (⟨#[]⟩ : ByteArray), .string (⟨#[]⟩ : ByteArray), .int .i64 0]) (t := 43) ?hr ?_; (case hd => rfl); (case hg => rfl); (case hr => first | (go_simp; done) | (go_simp; rfl)); intro gt hg w3 hbox hb; have KB := Aside0.mk hb; have KS := Aside0.mk hbox; have KG := Aside0.mk hg; clear hg hbox hb; have hct0 : w3.cell? ⟨gt, 0, none⟩ = some (.bool false) := (blk_cell KS.out 0).trans rfl; have hct1 : w3.cell? ⟨gt, 1, none⟩ = some (.string (⟨#[]⟩ : ByteArray)) := (blk_cell KS.out 1).trans rfl; have hct2 : w3.cell? ⟨gt, 2, none⟩ = some (.string (⟨#[]⟩ : ByteArray)) := (blk_cell KS.out 2).trans rfl; have hct3 : w3.cell? ⟨gt, 3, none⟩ = some (.string (⟨#[]⟩ : ByteArray)) := (blk_cell KS.out 3).trans rfl; have hct4 : w3.cell? ⟨gt, 4, none⟩ = some (.int .i64 0) := (blk_cell KS.out 4).trans rfl; have hf0 := blk_frozen KS.out 0; have hf1 := blk_frozen KS.out 1; have hf2 := blk_frozen KS.out 2; have hf3 := blk_frozen KS.out 3; have hf4 := blk_frozen KS.out 4))
  go_wp2
  go_loopw [39] (fun v39 wr => ∃ (i : Nat), i ≤ sd.size ∧ v39 = .int .i64 i ∧ Aside0 (number_Value.Holds w wr gt w3.heap.size #[.bool t1, .string t2, .string t3, .string t4, .int .i64 t5] sd i)) (fun v39 _ => sd.size - (intOf v39).toNat)
  case atStart =>
    have hb3 : Below w.heap.size w w3 := below_step (below_step (number_parts.belowN (Below.refl _ _) n1) HB2.out) KB.out
    have hlo : w.heap.size ≤ gt := by
      rw [KG.out]
      exact (below_step (number_parts.belowN (Below.refl _ _) n1) HB2.out).size
    have e : ∀ (W : World) (p : Addr) (u : Value), (W.setCell p u).heap.size = W.heap.size := fun W p u => by simp [World.setCell]
    have h := number_Value.Holds.start (c := #[.bool t1, .string t2, .string t3, .string t4, .int .i64 t5]) (gt := gt) (below_set (below_set (below_set (below_set (below_set hb3 hlo) hlo) hlo) hlo) hlo) (blk_put (blk_put (blk_put (blk_put (blk_put KS.out 0 (.bool t1) rfl) 1 (.string t2) rfl) 2 (.string t3) rfl) 3 (.string t4) rfl) 4 (.int .i64 t5) rfl) hlo sd
    rw [e, e, e, e, e] at h
    exact ⟨0, Nat.zero_le _, rfl, ⟨h⟩⟩
  case round =>
    clear kb
    obtain ⟨i, hi, rfl, HH⟩ := hrel
    by_cases hlt : i < sd.size
    · have q0 : (0 ≤ (i : Int)) = True := eq_true (by omega)
      have q1 : ((i : Int) < (sd.size : Int)) = True := eq_true (by omega)
      have q2 : decide ((i : Int) < (sd.size : Int)) = true := decide_eq_true (by omega)
      have q3 : decide (i < sd.size) = true := decide_eq_true hlt
      have q4 : (i < sd.size) = True := eq_true hlt
      have hx : wr.cell? ⟨w3.heap.size, i, none⟩ = some (.int .u8 (bt sd (i : Nat))) := by
        rw [HH.out.cell hlt]
        simp [number_Value.at]
      have hz := HH.out.froz hlt
      have H1 := Aside0.mk hlt
      have HW := Aside0.mk (number_Value.next hlt HSZ.out)
      have hA := add_plain w3.heap.size i
      clear hlt hi
      go_wp2
      go_roundw
      case rel => exact ⟨i + 1, H1.out, by rw [HW.out], ⟨HH.out.set _ rfl⟩⟩
      case measure => exact number_Value.less H1.out HW.out
    · have hie : i = sd.size := by omega
      subst hie
      have z2 : decide ((sd.size : Int) < (sd.size : Int)) = false := decide_eq_false (by omega)
      have z3 : decide (sd.size < sd.size) = false := decide_eq_false (by omega)
      have hT := HH.out.ht
      have hct0 : wr.cell? ⟨gt, 0, none⟩ = some (.bool t1) := (blk_cell hT 0).trans rfl
      have hf0 := blk_frozen hT 0
      have hct1 : wr.cell? ⟨gt, 1, none⟩ = some (.string t2) := (blk_cell hT 1).trans rfl
      have hf1 := blk_frozen hT 1
      have hct2 : wr.cell? ⟨gt, 2, none⟩ = some (.string t3) := (blk_cell hT 2).trans rfl
      have hf2 := blk_frozen hT 2
      have hct3 : wr.cell? ⟨gt, 3, none⟩ = some (.string t4) := (blk_cell hT 3).trans rfl
      have hf3 := blk_frozen hT 3
      have hct4 : wr.cell? ⟨gt, 4, none⟩ = some (.int .i64 t5) := (blk_cell hT 4).trans rfl
      have hf4 := blk_frozen hT 4
      have hdl : (number_Value.digs sd).length = sd.size := by simp [number_Value.digs]
      have KS2 : ∀ (W : World) (cap : Nat), Kd.V (Kd.int .u8) 5 W W.heap.size (fun k_ => k_ = w3.heap.size) (.slice (some ⟨w3.heap.size, 0, none⟩) (number_Value.digs sd).length cap) (number_Value.digs sd) → Calls Tryd.prog 25 #[.slice (some ⟨w3.heap.size, 0, none⟩) sd.size cap, .int .i64 (wrap64 ((t2.size : Int) + x)), .int .i64 a1] W fun e w' => e = .returned (.tuple #[.int .i64 q1, .bool q2]) ∧ Below W.heap.size W w' := fun W cap hv => by
        have h := number_scaled.calls k _ _ cap (number_Value.digs sd) (wrap64 ((t2.size : Int) + x)) a1 q1 q2 W hv (HSD.out ▸ HQ.out)
        rw [hdl] at h
        exact h
      have KS3 := Aside0.mk KS2
      clear hlt KS2
      go_wp2
      have HH4 := Aside0.mk (number_Value.Holds.drew HH.out)
      refine start_ (n := 14) (S := (fun w' => w'.cell? ⟨gt, 0, none⟩ = some (.bool t1) ∧ w'.cell? ⟨gt, 1, none⟩ = some (.string t2) ∧ w'.cell? ⟨gt, 2, none⟩ = some (.string t3) ∧ w'.cell? ⟨gt, 3, none⟩ = some (.string t4) ∧ w'.cell? ⟨gt, 4, none⟩ = some (.int .i64 t5))) (ds := []) #[false, false, false, false, false, false, false, false, false, false, false, false, false, false] (by kernel_rfl) rfl rfl ⟨(blk_cell HH4.out.ht 0).trans rfl, (blk_cell HH4.out.ht 1).trans rfl, (blk_cell HH4.out.ht 2).trans rfl, (blk_cell HH4.out.ht 3).trans rfl, (blk_cell HH4.out.ht 4).trans rfl⟩ (fun hHeld => ?_)
      refine with_tabW number_Value.tab12 number_Value.bits12 (fun HT_ HW_ => ?_)
      generalize wr.drew = w4 at HH4 hHeld ⊢
      refine pure_ (i := 0) (N := some 50) (v := ?_) (a' := ?_) #[true, false, false, false, false, false, false, false, false, false, false, false, false, false] rfl rfl (any_of HT_.out (by kernel_rfl)) (fun _ _ _ h => h) (Or.inl ⟨by rfl, ?_⟩) ?_ ?_
      rotate_left
      ·intro w'
       go_simp
       with_reducible rfl
      rotate_left
      ·simp only [Act.put, List.setIfInBounds_toArray, List.set_cons_zero, List.set_cons_succ, i64_w, i32_w]
       rfl
      refine pure_ (i := 1) (N := some 51) (v := ?_) (a' := ?_) #[true, true, false, false, false, false, false, false, false, false, false, false, false, false] rfl rfl (any_of HT_.out (by kernel_rfl)) (fun _ _ _ h => h) (Or.inl ⟨by rfl, ?_⟩) ?_ ?_
      rotate_left
      ·intro w'
       go_simp
       with_reducible rfl
      rotate_left
      ·simp only [Act.put, List.setIfInBounds_toArray, List.set_cons_zero, List.set_cons_succ, i64_w, i32_w]
       rfl
      refine take_ (i := 2) (N := some 52) (v := ?_) (a' := ?_) #[true, true, true, false, false, false, false, false, false, false, false, false, false, false] rfl rfl (take_ofW HT_.out HW_.out (by kernel_rfl)) (fun _ _ _ h => h) (Or.inl ⟨by rfl, ?_⟩) hHeld ?_ ?_
      rotate_left
      ·rintro w' ⟨s0, s1, s2, s3, s4⟩
       go_simp
       with_reducible rfl
      rotate_left
      ·simp only [Act.put, List.setIfInBounds_toArray, List.set_cons_zero, List.set_cons_succ, i64_w, i32_w]
       rfl
      refine pure_ (i := 3) (N := some 53) (v := ?_) (a' := ?_) #[true, true, true, true, false, false, false, false, false, false, false, false, false, false] rfl rfl (any_of HT_.out (by kernel_rfl)) (fun _ _ _ h => h) (Or.inl ⟨by rfl, ?_⟩) ?_ ?_
      rotate_left
      ·intro w'
       go_simp
       with_reducible rfl
      rotate_left
      ·simp only [Act.put, List.setIfInBounds_toArray, List.set_cons_zero, List.set_cons_succ, i64_w, i32_w]
       rfl
      refine take_ (i := 4) (N := some 54) (v := ?_) (a' := ?_) #[true, true, true, true, true, false, false, false, false, false, false, false, false, false] rfl rfl (take_ofW HT_.out HW_.out (by kernel_rfl)) (fun _ _ _ h => h) (Or.inl ⟨by rfl, ?_⟩) hHeld ?_ ?_
      rotate_left
      ·rintro w' ⟨s0, s1, s2, s3, s4⟩
       go_simp
       with_reducible rfl
      rotate_left
      ·simp only [Act.put, List.setIfInBounds_toArray, List.set_cons_zero, List.set_cons_succ, i64_w, i32_w]
       rfl
      refine pure_ (i := 7) (N := some 57) (v := ?_) (a' := ?_) #[true, true, true, true, true, false, false, true, false, false, false, false, false, false] rfl rfl (any_of HT_.out (by kernel_rfl)) (fun _ _ _ h => h) (Or.inl ⟨by rfl, ?_⟩) ?_ ?_
      rotate_left
      ·intro w'
       go_simp
       with_reducible rfl
      rotate_left
      ·simp only [Act.put, List.setIfInBounds_toArray, List.set_cons_zero, List.set_cons_succ, i64_w, i32_w]
       rfl
      refine one_ (i := 5) (N := some 55) #[true, true, true, true, true, true, false, true, false, false, false, false, false, false] rfl rfl (one_of HT_.out (by kernel_rfl)) (by decide) (fun K hK => ?_)
      refine goes_ Tryd.func26 (by kernel_rfl) rfl #[.agg #[.bool t1, .string t2, .string t3, .string t4, .int .i64 t5]] (by rfl) rfl rfl goa_ ?_
      with_reducible refine (number_text_exponent.calls k t1 t2 t3 t4 t5 x _ HX.out).mono ?_
      rintro e w5 ⟨rfl, hb⟩
      refine ⟨_, rfl, ?_⟩
      have HH5 := Aside0.mk (number_Value.Holds.call HH4.out hb)
      clear hb
      refine hK.out _ _ ⟨(blk_cell HH5.out.ht 0).trans rfl, (blk_cell HH5.out.ht 1).trans rfl, (blk_cell HH5.out.ht 2).trans rfl, (blk_cell HH5.out.ht 3).trans rfl, (blk_cell HH5.out.ht 4).trans rfl⟩ (fun hHeld => ?_)
      clear hK K
      refine norm_ (a' := ?_) ?_ ?_
      rotate_left
      ·show Act.put _ (some 55) _ = _
       simp only [Act.put, List.setIfInBounds_toArray, List.set_cons_zero, List.set_cons_succ, i64_w, i32_w]
       rfl
      refine pure_ (i := 6) (N := some 56) (v := ?_) (a' := ?_) #[true, true, true, true, true, true, true, true, false, false, false, false, false, false] rfl rfl (any_of HT_.out (by kernel_rfl)) (fun _ _ _ h => h) (Or.inl ⟨by rfl, ?_⟩) ?_ ?_
      rotate_left
      ·intro w'
       go_simp
       with_reducible rfl
      rotate_left
      ·simp only [Act.put, List.setIfInBounds_toArray, List.set_cons_zero, List.set_cons_succ, i64_w, i32_w]
       rfl
      refine one_ (i := 8) (N := some 58) #[true, true, true, true, true, true, true, true, true, false, false, false, false, false] rfl rfl (one_of HT_.out (by kernel_rfl)) (by decide) (fun K hK => ?_)
      refine goes_ Tryd.func25 (by kernel_rfl) rfl #[.slice (some ⟨w3.heap.size, 0, none⟩) sd.size (grownCap (((((w3.setCell { block := gt, off := 0 } (Value.bool t1)).setCell { block := gt, off := 1 } (Value.string t2)).setCell { block := gt, off := 2 } (Value.string t3)).setCell { block := gt, off := 3 } (Value.string t4)).setCell { block := gt, off := 4 } (Value.int IntKind.i64 t5)) sd.size 0 5), .int .i64 (wrap64 ((t2.size : Int) + x)), .int .i64 a1] (by rfl) rfl rfl goa_ ?_
      with_reducible refine (KS3.out _ _ ?sv).mono ?_
      case sv => exact number_Value.Holds.row HH5.out HSZ.out _ _ (grownCap_ge _ _ _ _)
      rintro e w6 ⟨rfl, hb⟩
      refine ⟨_, rfl, ?_⟩
      have HH6 := Aside0.mk (number_Value.Holds.call HH5.out hb)
      clear hb
      refine hK.out _ _ ⟨(blk_cell HH6.out.ht 0).trans rfl, (blk_cell HH6.out.ht 1).trans rfl, (blk_cell HH6.out.ht 2).trans rfl, (blk_cell HH6.out.ht 3).trans rfl, (blk_cell HH6.out.ht 4).trans rfl⟩ (fun hHeld => ?_)
      clear hK K
      refine norm_ (a' := ?_) ?_ ?_
      rotate_left
      ·show Act.put _ (some 58) _ = _
       simp only [Act.put, List.setIfInBounds_toArray, List.set_cons_zero, List.set_cons_succ, i64_w, i32_w]
       rfl
      refine pure_ (i := 9) (N := some 49) (v := ?_) (a' := ?_) #[true, true, true, true, true, true, true, true, true, true, false, false, false, false] rfl rfl (any_of HT_.out (by kernel_rfl)) (fun _ _ _ h => h) (Or.inl ⟨by rfl, ?_⟩) ?_ ?_
      rotate_left
      ·intro w'
       go_simp
       with_reducible rfl
      rotate_left
      ·simp only [Act.put, List.setIfInBounds_toArray, List.set_cons_zero, List.set_cons_succ, i64_w, i32_w]
       rfl
      refine pure_ (i := 10) (N := some 59) (v := ?_) (a' := ?_) #[true, true, true, true, true, true, true, true, true, true, true, false, false, false] rfl rfl (any_of HT_.out (by kernel_rfl)) (fun _ _ _ h => h) (Or.inl ⟨by rfl, ?_⟩) ?_ ?_
      rotate_left
      ·intro w'
       go_simp
       with_reducible rfl
      rotate_left
      ·simp only [Act.put, List.setIfInBounds_toArray, List.set_cons_zero, List.set_cons_succ, i64_w, i32_w]
       rfl
      refine pure_ (i := 11) (N := some 60) (v := ?_) (a' := ?_) #[true, true, true, true, true, true, true, true, true, true, true, true, false, false] rfl rfl (any_of HT_.out (by kernel_rfl)) (fun _ _ _ h => h) (Or.inl ⟨by rfl, ?_⟩) ?_ ?_
      rotate_left
      ·intro w'
       go_simp
       with_reducible rfl
      rotate_left
      ·simp only [Act.put, List.setIfInBounds_toArray, List.set_cons_zero, List.set_cons_succ, i64_w, i32_w]
       rfl
      refine pure_ (i := 12) (N := some 9) (v := ?_) (a' := ?_) #[true, true, true, true, true, true, true, true, true, true, true, true, true, false] rfl rfl (any_of HT_.out (by kernel_rfl)) (fun _ _ _ h => h) (Or.inl ⟨by rfl, ?_⟩) ?_ ?_
      rotate_left
      ·intro w'
       go_simp
       with_reducible rfl
      rotate_left
      ·simp only [Act.put, List.setIfInBounds_toArray, List.set_cons_zero, List.set_cons_succ, i64_w, i32_w]
       rfl
      refine pure_ (i := 13) (N := some 10) (v := ?_) (a' := ?_) #[true, true, true, true, true, true, true, true, true, true, true, true, true, true] rfl rfl (any_of HT_.out (by kernel_rfl)) (fun _ _ _ h => h) (Or.inl ⟨by rfl, ?_⟩) ?_ ?_
      rotate_left
      ·intro w'
       go_simp
       with_reducible rfl
      rotate_left
      ·simp only [Act.put, List.setIfInBounds_toArray, List.set_cons_zero, List.set_cons_succ, i64_w, i32_w]
       rfl
      refine done_ (done_of HT_.out (by kernel_rfl)) ?_
      clear hct0 hct1 hct2 hct3 hct4 hf0 hf1 hf2 hf3 hf4
      have hT6 := HH6.out.ht
      have hct0 : w6.cell? ⟨gt, 0, none⟩ = some (.bool t1) := (blk_cell hT6 0).trans rfl
      have hf0 := blk_frozen hT6 0
      have HB6 := Aside0.mk HH6.out.b
      cases q2
      · go_wp2
        go_ret2
        exact ⟨rfl, HB6.out⟩
      · cases t1
        · go_wp2
          go_ret2
          exact ⟨rfl, HB6.out⟩
        · go_wp2
          go_ret2
          exact ⟨rfl, HB6.out⟩

set_option maxHeartbeats 4000000 in
set_option maxRecDepth 100000 in
theorem number_Value.nonum (a0 : ByteArray) (a1 : Int) (t1 : Bool) (t2 t3 t4 : ByteArray) (t5 : Int) (w : World) (hsc : number_isScale.f a1 = some true) (hp : number_parts.f a0 = some (t1, t2, t3, t4, t5))
    (hc : t5 = 0 ∨ t5 ≠ (a0.size : Int) ∨ 300 < (a0.size : Int)) :
    Calls Tryd.prog 18 #[.string a0, .int .i64 a1] w fun e w' => e = .returned (.tuple #[.int .i64 0, .int .i64 21]) ∧ Below w.heap.size w w' := by
  have hu := Tryd.underlying43
  have HSC := Aside0.mk hsc
  have HPT := Aside0.mk hp
  obtain ⟨b1, hb1⟩ : ∃ b, (t5 == 0) = b := ⟨_, rfl⟩
  obtain ⟨b2, hb2⟩ : ∃ b, (t5 != (a0.size : Int)) = b := ⟨_, rfl⟩
  obtain ⟨b3, hb3⟩ : ∃ b, decide (300 < (a0.size : Int)) = b := ⟨_, rfl⟩
  have hb4 : decide ((a0.size : Int) > 300) = b3 := hb3
  have HC : (b1 = true) ∨ (b1 = false ∧ b2 = true) ∨ (b1 = false ∧ b2 = false ∧ b3 = true) := by
    cases b1
    · cases b2
      · cases b3
        · exfalso
          simp at hb1 hb2 hb3
          omega
        · exact Or.inr (Or.inr ⟨rfl, rfl, rfl⟩)
      · exact Or.inr (Or.inl ⟨rfl, rfl⟩)
    · exact Or.inl rfl
  clear hsc hp hc
  rcases HC with rfl | ⟨rfl, rfl⟩ | ⟨rfl, rfl, rfl⟩
  all_goals
    go_enter Tryd.func18, Tryd.ntmps18
    go_wp2_with (first
      | (go_at_call 23; refine (number_isScale.calls _ _ _ HSC.out).mono ?_; rintro e w1 ⟨rfl, ⟨n1, rfl⟩⟩)
      | (go_at_call 24; refine (number_parts.calls _ _ _ _ _ _ _ HPT.out).mono ?_; rintro e w2 ⟨rfl, hb⟩; have HB2 := Aside0.mk hb; clear hb)
      | ((with_reducible refine gate_dst (N := 6) rfl ?_); (try (refine gate_guard (by rfl) ?_; dsimp only)); refine box_event ?hg (N := 6) ?hd (cs := #[.bool false, .string (⟨#[]⟩ : ByteArray), .string (⟨#[]⟩ : ByteArray), .string (⟨#[]⟩ : ByteArray), .int .i64 0]) (t := 43) ?hr ?_; (case hd => rfl); (case hg => rfl); (case hr => first | (go_simp; done) | (go_simp; rfl)); intro gt hg w3 hbox hb; have KB := Aside0.mk hb; have KS := Aside0.mk hbox; have KG := Aside0.mk hg; clear hg hbox hb; have hct0 : w3.cell? ⟨gt, 0, none⟩ = some (.bool false) := (blk_cell KS.out 0).trans rfl; have hct1 : w3.cell? ⟨gt, 1, none⟩ = some (.string (⟨#[]⟩ : ByteArray)) := (blk_cell KS.out 1).trans rfl; have hct2 : w3.cell? ⟨gt, 2, none⟩ = some (.string (⟨#[]⟩ : ByteArray)) := (blk_cell KS.out 2).trans rfl; have hct3 : w3.cell? ⟨gt, 3, none⟩ = some (.string (⟨#[]⟩ : ByteArray)) := (blk_cell KS.out 3).trans rfl; have hct4 : w3.cell? ⟨gt, 4, none⟩ = some (.int .i64 0) := (blk_cell KS.out 4).trans rfl; have hf0 := blk_frozen KS.out 0; have hf1 := blk_frozen KS.out 1; have hf2 := blk_frozen KS.out 2; have hf3 := blk_frozen KS.out 3; have hf4 := blk_frozen KS.out 4))
    have hb3 : Below w.heap.size w w3 := below_step (below_step (number_parts.belowN (Below.refl _ _) n1) HB2.out) KB.out
    have hlo : w.heap.size ≤ gt := by
      rw [KG.out]
      exact (below_step (number_parts.belowN (Below.refl _ _) n1) HB2.out).size
    have HB3 := Aside0.mk hb3
    have HL := Aside0.mk hlo
    clear hb3 hlo
    go_ret2
    exact ⟨rfl, below_set (below_set (below_set (below_set (below_set HB3.out HL.out) HL.out) HL.out) HL.out) HL.out⟩

set_option maxHeartbeats 4000000 in
set_option maxRecDepth 100000 in
theorem number_Value.calls (k : Nat) (a0 : ByteArray) (a1 r1 r2 : Int) (w : World) (h : number_Value.f k a0 a1 = some (r1, r2)) :
    Calls Tryd.prog 18 #[.string a0, .int .i64 a1] w fun e w' => e = .returned (.tuple #[.int .i64 r1, .int .i64 r2]) ∧ Below w.heap.size w w' := by
  unfold number_Value.f at h
  obtain ⟨b, hsc, h⟩ := Option.bind_eq_some_iff.mp h
  cases b
  · rw [if_neg (by decide)] at h
    obtain ⟨rfl, rfl⟩ := Prod.mk.inj (Option.some.inj h)
    have HSC := Aside0.mk hsc
    clear hsc h
    have hu := Tryd.underlying43
    go_enter Tryd.func18, Tryd.ntmps18
    go_wp2_with (first | (go_at_call 23; refine (number_isScale.calls _ _ _ HSC.out).mono ?_; rintro e w1 ⟨rfl, ⟨n1, rfl⟩⟩))
    go_ret2
    exact ⟨rfl, by repeat (first | exact Below.refl _ _ | apply number_parts.belowN)⟩
  · rw [if_pos rfl] at h
    obtain ⟨⟨t1, t2, t3, t4, t5⟩, hp, h⟩ := Option.bind_eq_some_iff.mp h
    dsimp only at h
    by_cases hc : t5 = 0 ∨ t5 ≠ (a0.size : Int) ∨ 300 < (a0.size : Int)
    · rw [if_pos hc] at h
      obtain ⟨rfl, rfl⟩ := Prod.mk.inj (Option.some.inj h)
      exact number_Value.nonum a0 a1 t1 t2 t3 t4 t5 w hsc hp hc
    · rw [if_neg hc] at h
      by_cases hz : t2.size + t3.size ≤ 140737488351232
      · rw [if_pos hz] at h
        obtain ⟨x, hx, h⟩ := Option.bind_eq_some_iff.mp h
        obtain ⟨⟨q1, q2⟩, hq, h⟩ := Option.bind_eq_some_iff.mp h
        have h5 : t5 ≠ 0 := fun e => hc (Or.inl e)
        have h6 : t5 = (a0.size : Int) := by
          by_cases e : t5 = (a0.size : Int)
          · exact e
          · exact absurd (Or.inr (Or.inl e)) hc
        have h7 : (a0.size : Int) ≤ 300 := by
          by_cases e : 300 < (a0.size : Int)
          · exact absurd (Or.inr (Or.inr e)) hc
          · omega
        refine (number_Value.walk k a0 a1 t1 t2 t3 t4 t5 x q1 q2 w hsc hp h5 h6 h7 hz hx hq).mono ?_
        rintro e w' ⟨rfl, hb⟩
        refine ⟨?_, hb⟩
        cases q2 <;> cases t1 <;> simp only [if_pos, if_neg, Bool.false_eq_true, if_false, if_true] at h ⊢ <;> (obtain ⟨rfl, rfl⟩ := Prod.mk.inj (Option.some.inj h); rfl)
      · rw [if_neg hz] at h
        cases h

end Go.Proofs.YtipjoejaeipgnaaDoor.PFl
