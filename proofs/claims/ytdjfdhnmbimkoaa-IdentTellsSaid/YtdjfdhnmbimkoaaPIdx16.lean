-- Written by a program of this session (wip/p2) out of the translation; Lean checks it.
import Derived.Test.YtdjfdhnmbimkoaaPIdx0
namespace Go.Proofs.Ytdjfdhnmbimkoaa.PId
open Go.RowKit Go.Proofs.YtdjfdhnmbimkoaaW.PrintWords Go.Proofs.YtdjfdhnmbimkoaaW.PrintLast Go.Proofs.YtdjfdhnmbimkoaaW.PrintMore
attribute [local go_sem] max2_int min2_int max_two min_two max_three min_three max_four min_four   -- for this text's walks alone
set_option linter.unusedVariables false
set_option linter.unusedSimpArgs false
open Go.Proofs.Ytdjfdhnmbimkoaa.Opn Go.Proofs.Ytdjfdhnmbimkoaa.Giv

/-! ### ident_Lower: function 46 -/
def ident_Lower.low (c : Int) : Int := if c ≥ 65 then (if c ≤ 90 then c + 32 else c) else c
def ident_Lower.at (s : ByteArray) (i j : Nat) : Int := if j < i then ident_Lower.low (bt s j) else bt s j
def ident_Lower.f (s : ByteArray) : Option ByteArray := if s.size ≤ 140737488351232 then some (strOfNums ((List.range s.size).map fun j => ident_Lower.low (bt s (j : Nat)))) else none
structure ident_Lower.Holds (w w1 : World) (g : Nat) (s : ByteArray) (i : Nat) : Prop where
  lo : w.heap.size ≤ g
  b : Below w.heap.size w w1
  o : ∃ cs lo hi, w1.heap[g]? = some (.cells cs 5 (lo, hi)) ∧ (∀ j, j < s.size → cs[j]? = some (.int .u8 (ident_Lower.at s i j))) ∧ s.size ≤ lo
theorem ident_Lower.Holds.cell {w w1 : World} {g : Nat} {s : ByteArray} {i : Nat} (h : ident_Lower.Holds w w1 g s i) {j : Nat} (hj : j < s.size) : w1.cell? ⟨g, j, none⟩ = some (.int .u8 (ident_Lower.at s i j)) := by
  obtain ⟨cs, lo, hi, h1, h2, h3⟩ := h.o
  rw [cell_of_row _ _ _ _ _ _ h1]
  exact h2 j hj
theorem ident_Lower.Holds.froz {w w1 : World} {g : Nat} {s : ByteArray} {i : Nat} (h : ident_Lower.Holds w w1 g s i) {j : Nat} (hj : j < s.size) : w1.frozen? ⟨g, j, none⟩ = false := by
  obtain ⟨cs, lo, hi, h1, h2, h3⟩ := h.o
  have : ¬ lo ≤ j := by omega
  simp [World.frozen?, h1, this]
theorem ident_Lower.Holds.start (w : World) (s : ByteArray) : ident_Lower.Holds w (Lib.bytesWorld w 5 s) w.heap.size s 0 := by
  refine ⟨Nat.le_refl _, bytes_below (Below.refl _ _) (Nat.le_refl _) _ s, _, _, _, Lib.bytesWorld_at_new w _ s, fun j hj => ?_, ?_⟩
  · have h := Lib.bytesWorld_cell w 5 s j hj
    rw [cell_of_row _ _ _ _ _ _ (Lib.bytesWorld_at_new w _ s)] at h
    rw [h]
    have hb : ident_Lower.at s 0 j = bt s j := by simp [ident_Lower.at]
    rw [hb, ← bt_at s (j : Int) (by simpa using hj)]
    simp [List.getD_eq_getElem?_getD, hj]
    rfl
  · simp [Lib.bytesCells]
theorem ident_Lower.Holds.drewN {w w1 : World} {g : Nat} {s : ByteArray} {i : Nat} (h : ident_Lower.Holds w w1 g s i) (n : Nat) : ident_Lower.Holds w (w1.drewN n) g s i :=
  ⟨h.lo, h.b.trans ⟨rfl, rfl, rfl, Nat.le_refl _, fun _ _ => rfl⟩, h.o⟩
theorem ident_Lower.Holds.skip {w w1 : World} {g : Nat} {s : ByteArray} {i : Nat} (h : ident_Lower.Holds w w1 g s i) (he : ident_Lower.low (bt s (i : Nat)) = bt s (i : Nat)) : ident_Lower.Holds w w1 g s (i + 1) := by
  obtain ⟨cs, lo, hi, h1, h2, h3⟩ := h.o
  refine ⟨h.lo, h.b, cs, lo, hi, h1, fun j hj => ?_, h3⟩
  rw [h2 j hj]
  congr 2
  unfold ident_Lower.at
  rcases Nat.lt_trichotomy j i with h4 | rfl | h4
  · rw [if_pos h4, if_pos (by omega)]
  · rw [if_neg (by omega), if_pos (by omega), he]
  · rw [if_neg (by omega), if_neg (by omega)]
theorem ident_Lower.Holds.set {w w1 : World} {g : Nat} {s : ByteArray} {i : Nat} (h : ident_Lower.Holds w w1 g s i) (v : Int) (hv : v = ident_Lower.low (bt s (i : Nat))) : ident_Lower.Holds w (w1.setCell ⟨g, i, none⟩ (.int .u8 v)) g s (i + 1) := by
  obtain ⟨cs, lo, hi, h1, h2, h3⟩ := h.o
  refine ⟨h.lo, below_set h.b h.lo, cs.setIfInBounds i (.int .u8 v), lo, hi, ?_, fun j hj => ?_, h3⟩
  · simp [World.setCell, Array.getElem?_modify, h1]
  · unfold ident_Lower.at
    rcases Nat.lt_trichotomy j i with h4 | rfl | h4
    · rw [Array.getElem?_setIfInBounds_ne (by omega), h2 j hj, if_pos (by omega)]
      unfold ident_Lower.at
      rw [if_pos h4]
    · have hs : j < cs.size := (Array.getElem?_eq_some_iff.1 (h2 j hj)).1
      rw [Array.getElem?_setIfInBounds_self_of_lt hs, if_pos (by omega), hv]
    · rw [Array.getElem?_setIfInBounds_ne (by omega), h2 j hj, if_neg (by omega)]
      unfold ident_Lower.at
      rw [if_neg (by omega)]
theorem ident_Lower.Holds.read {w w1 : World} {g : Nat} {s : ByteArray} (h : ident_Lower.Holds w w1 g s s.size) (hs : s.size ≤ 140737488351232) (c : Nat) :
    (convert 96 9 (.slice (some ⟨g, 0, none⟩) s.size c)).run Try.prog w1 = .ok (.string (strOfNums ((List.range s.size).map fun j => ident_Lower.low (bt s (j : Nat))))) w1 := by
  refine string_of_reads Try.underlying96 Try.underlying5 Try.underlying9 ⟨by simp, by omega, fun _ => ⟨_, rfl, fun j hj => ?_⟩⟩
  rw [add_plain, h.cell hj]
  simp [ident_Lower.at, hj, List.getD_eq_getElem?_getD]
theorem ident_Lower.next {i n : Nat} (h1 : i < n) (hs : n ≤ 140737488351232) : wrap64 ((i : Int) + 1) = ((i + 1 : Nat) : Int) := by
  unfold wrap64
  omega
theorem ident_Lower.less {i n : Nat} (h1 : i < n) (hw : wrap64 ((i : Int) + 1) = ((i + 1 : Nat) : Int)) : n - (intOf (.int .i64 (wrap64 ((i : Int) + 1)))).toNat < n - (intOf (.int .i64 (i : Int))).toNat := by
  rw [hw]
  show n - (((i + 1 : Nat) : Int)).toNat < n - ((i : Int)).toNat
  rw [Int.toNat_natCast, Int.toNat_natCast]
  clear hw
  omega

set_option maxHeartbeats 400000 in
set_option maxRecDepth 100000 in
theorem ident_Lower.calls (s : ByteArray) (r : ByteArray) (w : World) (h : ident_Lower.f s = some r) :
    Calls Try.prog 46 #[.string s] w fun e w' => e = .returned (.string r) ∧ Below w.heap.size w w' := by
  unfold ident_Lower.f at h
  by_cases hs : s.size ≤ 140737488351232
  · rw [if_pos hs] at h
    have HR := Aside0.mk (Option.some.inj h)
    have HS := Aside0.mk hs
    clear h hs
    have kb := fun W => print_bytes (P := Try.prog) 9 96 5 Try.underlying9 Try.underlying96 Try.underlying5 s W
    go_enter Try.func46, Try.ntmps46
    go_wp2
    go_loopw [9] (fun v9 wr => ∃ (i : Nat), i ≤ s.size ∧ v9 = .int .i64 i ∧ Aside0 (ident_Lower.Holds w wr w.heap.size s i)) (fun v9 _ => s.size - (intOf v9).toNat)
    case atStart => exact ⟨0, Nat.zero_le _, rfl, ⟨ident_Lower.Holds.start w s⟩⟩
    case round =>
      clear kb
      obtain ⟨i, hi, rfl, HH⟩ := hrel
      by_cases hlt : i < s.size
      · have q0 : (0 ≤ (i : Int)) = True := eq_true (by omega)
        have q1 : ((i : Int) < (s.size : Int)) = True := eq_true (by omega)
        have q2 : decide ((i : Int) < (s.size : Int)) = true := decide_eq_true (by omega)
        have q3 : decide (i < s.size) = true := decide_eq_true hlt
        have q4 : (i < s.size) = True := eq_true hlt
        have hx : wr.cell? ⟨w.heap.size, i, none⟩ = some (.int .u8 (bt s (i : Nat))) := by
          rw [HH.out.cell hlt]
          simp [ident_Lower.at]
        have hz := HH.out.froz hlt
        have H1 := Aside0.mk hlt
        have HW := Aside0.mk (ident_Lower.next hlt HS.out)
        have hA := add_plain w.heap.size i
        clear hlt hi
        by_cases c1 : bt s (i : Nat) ≥ 65
        · have c1b : decide (65 ≤ bt s (i : Nat)) = true := decide_eq_true c1
          by_cases c2 : bt s (i : Nat) ≤ 90
          · have c2b : decide (bt s (i : Nat) ≤ 90) = true := decide_eq_true c2
            have HV : Aside0 ((bt s (i : Nat) + 32) % 256 = ident_Lower.low (bt s (i : Nat))) := ⟨by unfold ident_Lower.low; rw [if_pos c1, if_pos c2]; omega⟩
            clear c1 c2
            go_wp2
            go_roundw
            case rel => exact ⟨i + 1, H1.out, by rw [HW.out], ⟨HH.out.set _ HV.out⟩⟩
            case measure => exact ident_Lower.less H1.out HW.out
          · have c2b : decide (bt s (i : Nat) ≤ 90) = false := decide_eq_false c2
            have HV : Aside0 (ident_Lower.low (bt s (i : Nat)) = bt s (i : Nat)) := ⟨by unfold ident_Lower.low; rw [if_pos c1, if_neg c2]⟩
            clear c1 c2
            go_wp2
            go_roundw
            case rel => exact ⟨i + 1, H1.out, by rw [HW.out], ⟨HH.out.skip HV.out⟩⟩
            case measure => exact ident_Lower.less H1.out HW.out
        · have c1b : decide (65 ≤ bt s (i : Nat)) = false := decide_eq_false c1
          have HV : Aside0 (ident_Lower.low (bt s (i : Nat)) = bt s (i : Nat)) := ⟨by unfold ident_Lower.low; rw [if_neg c1]⟩
          clear c1
          go_wp2
          go_roundw
          case rel => exact ⟨i + 1, H1.out, by rw [HW.out], ⟨HH.out.skip HV.out⟩⟩
          case measure => exact ident_Lower.less H1.out HW.out
      · have hie : i = s.size := by omega
        subst hie
        have q2 : decide ((s.size : Int) < (s.size : Int)) = false := decide_eq_false (by omega)
        have q3 : decide (s.size < s.size) = false := decide_eq_false (by omega)
        have hk := HH.out.read HS.out (grownCap w s.size 0 5)
        clear hlt
        rw [HR.out] at hk
        go_wp2
        go_ret
        exact ⟨rfl, HH.out.b⟩
  · rw [if_neg hs] at h
    cases h

end Go.Proofs.Ytdjfdhnmbimkoaa.PId
