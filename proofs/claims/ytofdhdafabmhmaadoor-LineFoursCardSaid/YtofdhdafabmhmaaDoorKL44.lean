/- LineFoursCardSaid, part 5 of 13: contracts of the program's functions, the words that they use, and the plain laws on what they compute. Conditions: none beyond what the statements say. -/
import Derived.Test.YtofdhdafabmhmaaDoorKL40
import Derived.Test.YtofdhdafabmhmaaDoorKL41
import Derived.Test.YtofdhdafabmhmaaDoorKL43
import Derived.BigRegion
set_option linter.unusedVariables false
set_option linter.unusedSimpArgs false
section
namespace Go.Proofs.YtofdhdafabmhmaaDoor.PLf4
open Go.RowKit Go.Proofs.YtofdhdafabmhmaaDoorW.PrintWords Go.Proofs.YtofdhdafabmhmaaDoorW.PrintLast Go.Proofs.YtofdhdafabmhmaaDoorW.PrintMore
attribute [local go_sem] max2_int min2_int max_two min_two max_three min_three max_four min_four
open Go.Proofs.YtofdhdafabmhmaaDoor.Opn Go.Proofs.YtofdhdafabmhmaaDoor.Giv
set_option maxRecDepth 100000

/-! ### number_parts: function 106 -/
/-- Where the digits end that begin at a place (d: how many bytes there still are). -/
def number_parts.stopF (s : ByteArray) : Nat → Nat → Nat
 | 0, i => i
 | d + 1, i => if number_digit.f (bt s (i : Nat)) = some true then number_parts.stopF s d (i + 1) else i
def number_parts.stop (s : ByteArray) (i : Nat) : Nat := number_parts.stopF s (s.size - i) i
theorem number_parts.stopF_bd (s : ByteArray) : ∀ d i : Nat, i + d ≤ s.size → i ≤ number_parts.stopF s d i ∧ number_parts.stopF s d i ≤ i + d
 | 0, i, _ => ⟨Nat.le_refl _, Nat.le_refl _⟩
 | d + 1, i, h => by
  simp only [number_parts.stopF]; split
  ·have := number_parts.stopF_bd s d (i + 1) (by omega)
   omega
  omega
theorem number_parts.stop_bd (s : ByteArray) (i : Nat) (h : i ≤ s.size) : i ≤ number_parts.stop s i ∧ number_parts.stop s i ≤ s.size := by
 have := number_parts.stopF_bd s (s.size - i) i (by omega)
 unfold number_parts.stop; omega
theorem number_parts.stop_next (s : ByteArray) (i : Nat) (h : i < s.size) (hd : number_digit.f (bt s (i : Nat)) = some true) : number_parts.stop s i = number_parts.stop s (i + 1) := by
 unfold number_parts.stop; rw [show s.size - i = (s.size - (i + 1)) + 1 by omega]; simp only [number_parts.stopF]; rw [if_pos hd]
theorem number_parts.stop_here (s : ByteArray) (i : Nat) (h : i < s.size) (hd : number_digit.f (bt s (i : Nat)) ≠ some true) : number_parts.stop s i = i := by
 unfold number_parts.stop; rw [show s.size - i = (s.size - (i + 1)) + 1 by omega]; simp only [number_parts.stopF]; rw [if_neg hd]
theorem number_parts.stop_end (s : ByteArray) : number_parts.stop s s.size = s.size := by
 unfold number_parts.stop; rw [Nat.sub_self]; rfl
theorem number_parts.digit_is (c : Int) : ∃ b, number_digit.f c = some b := by
 unfold number_digit.f; split <;> exact ⟨_, rfl⟩
def number_parts.isSign (s : ByteArray) (i : Nat) : Bool := decide (i < s.size) && (bt s (i : Nat) == 43 || bt s (i : Nat) == 45)
def number_parts.sgn (s : ByteArray) (i : Nat) : Nat := if number_parts.isSign s i = true then i + 1 else i
def number_parts.neg (s : ByteArray) (i : Nat) : Bool := number_parts.isSign s i && bt s (i : Nat) == 45
def number_parts.isDot (s : ByteArray) (i : Nat) : Bool := decide (i < s.size) && bt s (i : Nat) == 46
def number_parts.isE (s : ByteArray) (i : Nat) : Bool := decide (i < s.size) && (bt s (i : Nat) == 101 || bt s (i : Nat) == 69)
/-- Where the whole digits begin and end; where those behind the point end; where the exponent's digits begin and end. -/
def number_parts.w0 (s : ByteArray) : Nat := number_parts.sgn s 0
def number_parts.w1 (s : ByteArray) : Nat := number_parts.stop s (number_parts.w0 s)
def number_parts.p1 (s : ByteArray) : Nat := if number_parts.isDot s (number_parts.w1 s) = true then number_parts.stop s (number_parts.w1 s + 1) else number_parts.w1 s
def number_parts.part (s : ByteArray) : ByteArray := if number_parts.isDot s (number_parts.w1 s) = true then s.extract (number_parts.w1 s + 1) (number_parts.p1 s) else ⟨#[]⟩
def number_parts.at2 (s : ByteArray) : Nat := if number_parts.isDot s (number_parts.w1 s) = true then (if number_parts.p1 s = number_parts.w1 s + 1 then number_parts.w1 s else number_parts.p1 s) else number_parts.w1 s
def number_parts.x0 (s : ByteArray) : Nat := number_parts.sgn s (number_parts.at2 s + 1)
def number_parts.x1 (s : ByteArray) : Nat := number_parts.stop s (number_parts.x0 s)
def number_parts.hasE (s : ByteArray) : Bool := number_parts.isE s (number_parts.at2 s) && decide (number_parts.x0 s < number_parts.x1 s)
def number_parts.f (s : ByteArray) : Option (Bool × ByteArray × ByteArray × ByteArray × Int) :=
 if s.size ≤ 140737488351232 then
  (if number_parts.w1 s = number_parts.w0 s ∧ number_parts.at2 s = number_parts.w1 s then some (false, ⟨#[]⟩, ⟨#[]⟩, ⟨#[]⟩, 0)
  else some (number_parts.neg s 0, s.extract (number_parts.w0 s) (number_parts.w1 s), number_parts.part s,
   if number_parts.hasE s = true then s.extract (number_parts.at2 s + 1) (number_parts.x1 s) else ⟨#[]⟩,
   if number_parts.hasE s = true then (number_parts.x1 s : Int) else (number_parts.at2 s : Int)))
 else none

/-- The text's block, and the block of the place. -/
structure number_parts.Two (W : World) (gs ga : Nat) (s : ByteArray) (i : Nat) : Prop where
 hs : W.heap[gs]? = some (.cells #[.string s] 9 (0, 0))
 ha : W.heap[ga]? = some (.cells #[.int .i64 i] 3 (0, 0))
 lt : gs < ga
theorem number_parts.Two.set {W : World} {gs ga : Nat} {s : ByteArray} {i : Nat} (h : number_parts.Two W gs ga s i) (j : Nat) : number_parts.Two (W.setCell ⟨ga, 0, none⟩ (.int .i64 j)) gs ga s j :=
 ⟨blk_far h.hs (show gs ≠ ga from Nat.ne_of_lt h.lt) _, blk_put h.ha 0 _ rfl, h.lt⟩
theorem number_parts.Two.drewN {W : World} {gs ga : Nat} {s : ByteArray} {i : Nat} (h : number_parts.Two W gs ga s i) (n : Nat) : number_parts.Two (W.drewN n) gs ga s i := ⟨h.hs, h.ha, h.lt⟩
theorem number_parts.lower {g : Nat} {w W : World} (h : Below g w W) (v : Value) : Below g w (W.setCell ⟨g, 0, none⟩ v) := h.trans ⟨rfl, rfl, rfl, by simp [World.setCell], fun k hk => Below.heap_setCell W _ v k (show k ≠ g by omega)⟩
theorem number_parts.belowN {B : Nat} {a w : World} (h : Below B a w) (n : Nat) : Below B a (w.drewN n) := h.trans ⟨rfl, rfl, rfl, Nat.le_refl _, fun _ _ => rfl⟩
theorem number_parts.next {i n : Nat} (h1 : i < n) (hs : n ≤ 140737488351232) : wrap64 ((i : Int) + 1) = ((i + 1 : Nat) : Int) := by
 unfold wrap64; omega

set_option maxHeartbeats 8000000 in
/-- parts' 'sign'. -/
theorem number_parts.sign_calls (s : ByteArray) (gs ga i : Nat) (w : World) (hs : s.size ≤ 140737488351232) (hi : i ≤ s.size) (h2 : number_parts.Two w gs ga s i) :
  Calls Tryd.prog 125 #[.pointer (some ⟨ga, 0, none⟩), .pointer (some ⟨gs, 0, none⟩)] w fun e w' => e = .returned (.bool (number_parts.neg s i)) ∧ Below ga w w' ∧ number_parts.Two w' gs ga s (number_parts.sgn s i) := by
 have H2 := am_ h2; have HN := am_ hs; have hcs : w.cell? ⟨gs, 0, none⟩ = some (.string s) := (blk_cell h2.hs 0).trans rfl; have hca : w.cell? ⟨ga, 0, none⟩ = some (.int .i64 i) := (blk_cell h2.ha 0).trans rfl; have hfa := blk_frozen h2.ha 0; have hne : gs ≠ ga := Nat.ne_of_lt h2.lt; have hne2 : ga ≠ gs := Nat.ne_of_gt h2.lt; clear h2; by_cases hlt : i < s.size
 ·have q0 : (0 ≤ (i : Int)) = True := eq_true (by omega); have q1 : ((i : Int) < (s.size : Int)) = True := eq_true (by omega); have q2 : decide ((i : Int) < (s.size : Int)) = true := dt_ (by omega); have q3 : decide (i < s.size) = true := dt_ hlt; have q4 : (i < s.size) = True := eq_true hlt; have hx : ∀ h : i < s.size, ((s[i].toNat : Nat) : Int) = bt s (i : Nat) := fun h => bt_at s (i : Int) (by simpa using h)
  have hw : wrap64 ((i : Int) + 1) = ((i + 1 : Nat) : Int) := number_parts.next hlt hs; have hw2 : wrap64 (i : Int) = (i : Int) := by unfold wrap64; omega
  have HLT := am_ hlt; have hb : ∃ b1 b2 : Bool, (bt s (i : Nat) == 43) = b1 ∧ (bt s (i : Nat) == 45) = b2 ∧ number_parts.isSign s i = (b1 || b2) := ⟨_, _, rfl, rfl, by unfold number_parts.isSign; rw [dt_ hlt]; rfl⟩
  obtain ⟨b1, b2, p1, p2, hS⟩ := hb; have hE : number_parts.neg s i = ((b1 || b2) && b2) := by unfold number_parts.neg; rw [hS, p2]
  have hG : number_parts.sgn s i = if (b1 || b2) = true then i + 1 else i := by unfold number_parts.sgn; rw [hS]
  rw [hE, hG]; clear hE hG hS hlt hi hs; have HP : (b1 = true ∧ b2 = true) ∨ (b1 = true ∧ b2 = false) ∨ (b1 = false ∧ b2 = true) ∨ (b1 = false ∧ b2 = false) := by cases b1 <;> cases b2 <;> simp
  rcases HP with ⟨rfl, rfl⟩ | ⟨rfl, rfl⟩ | ⟨rfl, rfl⟩ | ⟨rfl, rfl⟩
  all_goals
   go_enter Tryd.func125, Tryd.ntmps125
   go_wp2; go_ret
   refine ⟨rfl, by repeat (first | exact Below.refl _ _ | apply number_parts.belowN | apply number_parts.lower), ?_⟩
  all_goals
   repeat (first | exact H2.out | apply number_parts.Two.drewN | apply number_parts.Two.set)
 have hie : i = s.size := by omega
 subst hie; have hE : number_parts.neg s s.size = false := by unfold number_parts.neg number_parts.isSign; rw [df_ hlt]; rfl
 have hG : number_parts.sgn s s.size = s.size := by unfold number_parts.sgn number_parts.isSign; rw [df_ hlt]; rfl
 rw [hE, hG]; have q2 : decide ((s.size : Int) < (s.size : Int)) = false := df_ (by omega); have q3 : decide (s.size < s.size) = false := df_ (by omega); clear hE hG hlt hi; go_enter Tryd.func125, Tryd.ntmps125
 go_wp2; go_ret
 exact ⟨rfl, by repeat (first | exact Below.refl _ _ | apply number_parts.belowN | apply number_parts.lower), by repeat (first | exact H2.out | apply number_parts.Two.drewN | apply number_parts.Two.set)⟩

theorem number_parts.less {W W' : World} {gs ga j : Nat} {s : ByteArray} (h : number_parts.Two W gs ga s j) (h' : number_parts.Two W' gs ga s (j + 1)) (hj : j < s.size) : s.size - (intOf ((W'.cell? ⟨ga, 0, none⟩).getD undef)).toNat < s.size - (intOf ((W.cell? ⟨ga, 0, none⟩).getD undef)).toNat := by
 rw [show W.cell? ⟨ga, 0, none⟩ = some (.int .i64 j) from (blk_cell h.ha 0).trans rfl, show W'.cell? ⟨ga, 0, none⟩ = some (.int .i64 (j + 1 : Nat)) from (blk_cell h'.ha 0).trans rfl]; show s.size - (((j + 1 : Nat) : Int)).toNat < s.size - ((j : Int)).toNat
 rw [Int.toNat_natCast, Int.toNat_natCast]; omega
set_option maxHeartbeats 8000000 in
/-- parts' 'digits'. -/
theorem number_parts.digits_calls (s : ByteArray) (gs ga i : Nat) (w : World) (hs : s.size ≤ 140737488351232) (hi : i ≤ s.size) (h2 : number_parts.Two w gs ga s i) :
  Calls Tryd.prog 126 #[.pointer (some ⟨ga, 0, none⟩), .pointer (some ⟨gs, 0, none⟩)] w fun e w' => e = .returned (.string (s.extract i (number_parts.stop s i))) ∧ Below ga w w' ∧ number_parts.Two w' gs ga s (number_parts.stop s i) := by
 have HN := am_ hs; have HI := am_ hi; have H2 := am_ h2; have hca : w.cell? ⟨ga, 0, none⟩ = some (.int .i64 i) := (blk_cell h2.ha 0).trans rfl; clear h2 hs hi; go_enter Tryd.func126, Tryd.ntmps126
 go_wp2; go_loopw [] (fun wr => ∃ (j : Nat), Aside0 (i ≤ j ∧ j ≤ s.size ∧ number_parts.stop s i = number_parts.stop s j) ∧ Aside0 (number_parts.Two wr gs ga s j) ∧ Aside0 (Below ga w wr)) (fun wr => s.size - (intOf ((wr.cell? ⟨ga, 0, none⟩).getD undef)).toNat)
 case atStart => exact ⟨i, ⟨Nat.le_refl _, HI.out, rfl⟩, H2, ⟨Below.refl _ _⟩⟩
 case round =>
  clear hca; obtain ⟨j, HJ, HT, HB⟩ := hrel; have hcs : wr.cell? ⟨gs, 0, none⟩ = some (.string s) := (blk_cell HT.out.hs 0).trans rfl; have hca : wr.cell? ⟨ga, 0, none⟩ = some (.int .i64 j) := (blk_cell HT.out.ha 0).trans rfl; have hfa := blk_frozen HT.out.ha 0; have hne : gs ≠ ga := Nat.ne_of_lt HT.out.lt; have hne2 : ga ≠ gs := Nat.ne_of_gt HT.out.lt; by_cases hlt : j < s.size
  ·have q0 : (0 ≤ (j : Int)) = True := eq_true (by omega); have q1 : ((j : Int) < (s.size : Int)) = True := eq_true (by omega); have q2 : decide ((j : Int) < (s.size : Int)) = true := dt_ (by omega); have q3 : decide (j < s.size) = true := dt_ hlt; have q4 : (j < s.size) = True := eq_true hlt; have hx : ∀ h : j < s.size, ((s[j].toNat : Nat) : Int) = bt s (j : Nat) := fun h => bt_at s (j : Int) (by simpa using h)
   have hw : wrap64 ((j : Int) + 1) = ((j + 1 : Nat) : Int) := number_parts.next hlt HN.out; have HLT := am_ hlt; obtain ⟨b, hb⟩ := number_parts.digit_is (bt s (j : Nat)); have HD := am_ hb; clear hb hlt
   cases b with
   | true =>
    go_wp2_with (first | (go_at_call 127; refine (number_digit.calls _ _ _ HD.out).mono ?_; rintro e w5 ⟨rfl, ⟨nd, rfl⟩⟩))
    go_roundw
    case rel => exact ⟨j + 1, ⟨by have := HJ.out.1; omega, HLT.out, HJ.out.2.2.trans (number_parts.stop_next s j HLT.out HD.out)⟩, ⟨by repeat (first | exact HT.out | apply number_parts.Two.drewN | apply number_parts.Two.set)⟩, ⟨by repeat (first | exact HB.out | apply number_parts.belowN | apply number_parts.lower)⟩⟩
    case measure => exact number_parts.less HT.out (by repeat (first | exact HT.out | apply number_parts.Two.drewN | apply number_parts.Two.set)) HLT.out
   | false =>
    have hst := number_parts.stop_here s j HLT.out (by rw [HD.out]; simp); have hE : number_parts.stop s i = j := HJ.out.2.2.trans hst; have e1 : (0 ≤ (i : Int)) = True := eq_true (by omega); have e2 : ((i : Int) ≤ (j : Int)) = True := eq_true (by have := HJ.out.1; omega); have e3 : ((j : Int) ≤ (s.size : Int)) = True := eq_true (by have := HJ.out.2.1; omega); have e4 : (i ≤ j) = True := eq_true HJ.out.1; have e5 : (j ≤ s.size) = True := eq_true HJ.out.2.1; have e6 : decide (i ≤ j) = true := dt_ HJ.out.1; have e7 : decide (j ≤ s.size) = true := dt_ HJ.out.2.1; have HE := am_ hE; clear hst hE; go_wp2_with (first | (go_at_call 127; refine (number_digit.calls _ _ _ HD.out).mono ?_; rintro e w5 ⟨rfl, ⟨nd, rfl⟩⟩))
    go_ret
    rw [HE.out]; exact ⟨rfl, by repeat (first | exact HB.out | apply number_parts.belowN | apply number_parts.lower), by repeat (first | exact HT.out | apply number_parts.Two.drewN | apply number_parts.Two.set)⟩
  have hie : j = s.size := by have := HJ.out.2.1; omega
  subst hie; have hE : number_parts.stop s i = s.size := HJ.out.2.2.trans (number_parts.stop_end s); have q2 : decide ((s.size : Int) < (s.size : Int)) = false := df_ (by omega); have q3 : decide (s.size < s.size) = false := df_ (by omega); have e1 : (0 ≤ (i : Int)) = True := eq_true (by omega); have e2 : ((i : Int) ≤ (s.size : Int)) = True := eq_true (by have := HJ.out.1; omega); have e4 : (i ≤ s.size) = True := eq_true HJ.out.1; have e6 : decide (i ≤ s.size) = true := dt_ HJ.out.1; have HE := am_ hE; clear hE hlt; go_wp2; go_ret
  rw [HE.out]; exact ⟨rfl, by repeat (first | exact HB.out | apply number_parts.belowN | apply number_parts.lower), by repeat (first | exact HT.out | apply number_parts.Two.drewN | apply number_parts.Two.set)⟩

/-- The three blocks: the text's, the parts', the place's. -/
structure number_parts.St (w W : World) (gs gt ga : Nat) (s : ByteArray) (c : Array Value) (i : Nat) : Prop where
 b : Below w.heap.size w W
 two : number_parts.Two W gs ga s i
 ht : W.heap[gt]? = some (.cells c 133 (0, 0))
 lo : w.heap.size ≤ gs
 o1 : gs < gt
 o2 : gt < ga
theorem number_parts.St.drewN {w W : World} {gs gt ga : Nat} {s : ByteArray} {c : Array Value} {i : Nat} (h : number_parts.St w W gs gt ga s c i) (n : Nat) : number_parts.St w (W.drewN n) gs gt ga s c i :=
 ⟨number_parts.belowN h.b n, h.two.drewN n, h.ht, h.lo, h.o1, h.o2⟩
theorem number_parts.St.setA {w W : World} {gs gt ga : Nat} {s : ByteArray} {c : Array Value} {i : Nat} (h : number_parts.St w W gs gt ga s c i) (j : Nat) : number_parts.St w (W.setCell ⟨ga, 0, none⟩ (.int .i64 j)) gs gt ga s c j :=
 ⟨below_set h.b (Nat.le_trans h.lo (Nat.le_of_lt (Nat.lt_trans h.o1 h.o2))), h.two.set j, blk_far h.ht (show gt ≠ ga from Nat.ne_of_lt h.o2) _, h.lo, h.o1, h.o2⟩
theorem number_parts.St.setT {w W : World} {gs gt ga : Nat} {s : ByteArray} {c : Array Value} {i : Nat} (h : number_parts.St w W gs gt ga s c i) (k : Nat) (v : Value) (c' : Array Value) (e : c.setIfInBounds k v = c') : number_parts.St w (W.setCell ⟨gt, k, none⟩ v) gs gt ga s c' i :=
 ⟨below_set h.b (Nat.le_trans h.lo (Nat.le_of_lt h.o1)), ⟨blk_far h.two.hs (show gs ≠ gt from Nat.ne_of_lt h.o1) _, blk_far h.two.ha (show ga ≠ gt from Nat.ne_of_gt h.o2) _, h.two.lt⟩, blk_put h.ht k v e, h.lo, h.o1, h.o2⟩
theorem number_parts.St.call {w W W' : World} {gs gt ga : Nat} {s : ByteArray} {c : Array Value} {i j : Nat} (h : number_parts.St w W gs gt ga s c i) (hb : Below ga W W') (h2 : number_parts.Two W' gs ga s j) : number_parts.St w W' gs gt ga s c j :=
 ⟨h.b.trans ⟨hb.os, hb.tape, hb.output, hb.size, fun k hk => hb.block k (by have := h.lo; have := h.o1; have := h.o2; omega)⟩, h2, (hb.block gt h.o2).trans h.ht, h.lo, h.o1, h.o2⟩
theorem number_parts.sign_st {w W : World} {gs gt ga : Nat} {s : ByteArray} {c : Array Value} {i : Nat} (h : number_parts.St w W gs gt ga s c i) (j : Nat) (b : Bool) (hs : s.size ≤ 140737488351232) (hi : i ≤ s.size) (hj : number_parts.sgn s i = j) (hb : number_parts.neg s i = b) :
  Calls Tryd.prog 125 #[.pointer (some ⟨ga, 0, none⟩), .pointer (some ⟨gs, 0, none⟩)] W fun e w' => e = .returned (.bool b) ∧ number_parts.St w w' gs gt ga s c j :=
 (number_parts.sign_calls s gs ga i W hs hi h.two).mono fun e w' ⟨h1, h2, h3⟩ => ⟨hb ▸ h1, h.call h2 (hj ▸ h3)⟩
theorem number_parts.digits_st {w W : World} {gs gt ga : Nat} {s : ByteArray} {c : Array Value} {i : Nat} (h : number_parts.St w W gs gt ga s c i) (j : Nat) (r : ByteArray) (hs : s.size ≤ 140737488351232) (hi : i ≤ s.size) (hj : number_parts.stop s i = j) (hr : s.extract i j = r) :
  Calls Tryd.prog 126 #[.pointer (some ⟨ga, 0, none⟩), .pointer (some ⟨gs, 0, none⟩)] W fun e w' => e = .returned (.string r) ∧ number_parts.St w w' gs gt ga s c j :=
 (number_parts.digits_calls s gs ga i W hs hi h.two).mono fun e w' ⟨h1, h2, h3⟩ => ⟨hr ▸ hj ▸ h1, h.call h2 (hj ▸ h3)⟩

/-- What is known of a place within the text, and of one at its end. -/
theorem number_parts.at_in {s : ByteArray} {i : Nat} (h : i < s.size) : (0 ≤ (i : Int)) = True ∧ ((i : Int) < (s.size : Int)) = True ∧ decide ((i : Int) < (s.size : Int)) = true ∧ decide (i < s.size) = true ∧ (i < s.size) = True ∧ (∀ h : i < s.size, ((s[i].toNat : Nat) : Int) = bt s (i : Nat)) :=
 ⟨eq_true (by omega), eq_true (by omega), dt_ (by omega), dt_ h, eq_true h, fun h => bt_at s (i : Int) (by simpa using h)⟩
theorem number_parts.at_out {s : ByteArray} {i : Nat} (h : ¬ i < s.size) : decide ((i : Int) < (s.size : Int)) = false ∧ decide (i < s.size) = false := ⟨df_ (by omega), df_ h⟩
theorem number_parts.empty_is (r : ByteArray) : (r.toList == ([] : List UInt8)) = decide (r.size = 0) := by
 rw [ByteArray.toList_eq]; by_cases h : r.size = 0
 ·rw [dt_ h, Array.eq_empty_of_size_eq_zero (xs := r.data) h]; rfl
 rw [df_ h, beq_eq_false_iff_ne]; intro e; apply h
 have := congrArg List.length e
 simpa using this
theorem number_parts.cut_empty {s : ByteArray} {i j : Nat} (h1 : i ≤ j) (h2 : j ≤ s.size) : ((s.extract i j).toList == ([] : List UInt8)) = decide (i = j) := by
 rw [number_parts.empty_is, ByteArray.size_extract]; congr 1
 exact propext ⟨fun h => by omega, fun h => by omega⟩

/-- How it goes behind the whole digits (p: the part's digits; a2: the place behind them). -/
def number_parts.DotWay (s : ByteArray) (a1 b1 p1 a2 : Nat) (p : ByteArray) : Prop :=
 (¬ a1 < s.size ∧ p = ⟨#[]⟩ ∧ a2 = a1) ∨ (a1 < s.size ∧ (bt s (a1 : Nat) == 46) = false ∧ p = ⟨#[]⟩ ∧ a2 = a1) ∨
  (a1 < s.size ∧ (bt s (a1 : Nat) == 46) = true ∧ p1 = b1 ∧ (p.toList == ([] : List UInt8)) = true ∧ p = s.extract b1 p1 ∧ a2 = a1) ∨ (a1 < s.size ∧ (bt s (a1 : Nat) == 46) = true ∧ b1 < p1 ∧ (p.toList == ([] : List UInt8)) = false ∧ p = s.extract b1 p1 ∧ a2 = p1)
theorem number_parts.sgn_bd (s : ByteArray) (i : Nat) (h : i ≤ s.size) : i ≤ number_parts.sgn s i ∧ number_parts.sgn s i ≤ s.size ∧ number_parts.sgn s i ≤ i + 1 := by
 unfold number_parts.sgn; split
 ·rename_i h2
  unfold number_parts.isSign at h2; have := od_ (Bool.and_eq_true_iff.1 h2).1
  omega
 omega
theorem number_parts.dot_way (s : ByteArray) (h : number_parts.w1 s ≤ s.size) : number_parts.DotWay s (number_parts.w1 s) (number_parts.w1 s + 1) (number_parts.stop s (number_parts.w1 s + 1)) (number_parts.at2 s) (number_parts.part s) := by
 unfold number_parts.DotWay number_parts.at2 number_parts.part number_parts.p1; cases hd : number_parts.isDot s (number_parts.w1 s)
 ·rw [if_neg (by decide), if_neg (by decide)]; unfold number_parts.isDot at hd; by_cases hl : number_parts.w1 s < s.size
  ·rw [dt_ hl] at hd; exact .inr (.inl ⟨hl, hd, rfl, rfl⟩)
  exact .inl ⟨hl, rfl, rfl⟩
 rw [if_pos rfl, if_pos rfl]; unfold number_parts.isDot at hd; obtain ⟨h1, h2⟩ := Bool.and_eq_true_iff.1 hd; have h1 := od_ h1; have h3 := number_parts.stop_bd s (number_parts.w1 s + 1) h1; rw [if_pos rfl]; by_cases he : number_parts.stop s (number_parts.w1 s + 1) = number_parts.w1 s + 1
 ·rw [if_pos he]; exact .inr (.inr (.inl ⟨h1, h2, he, by rw [number_parts.cut_empty h3.1 h3.2, dt_ he.symm], rfl, rfl⟩))
 rw [if_neg he]; exact .inr (.inr (.inr ⟨h1, h2, by omega, by rw [number_parts.cut_empty h3.1 h3.2, df_ (fun e => he e.symm)], rfl, rfl⟩))

/-- How it goes behind the digits (x: the exponent's text; en: where the number ends). -/
def number_parts.ExpWay (s : ByteArray) (a2 b2 x0 x1 : Nat) (y x : ByteArray) (en : Nat) : Prop :=
 (¬ a2 < s.size ∧ x = ⟨#[]⟩ ∧ a2 = en) ∨ (a2 < s.size ∧ (bt s (a2 : Nat) == 101) = false ∧ (bt s (a2 : Nat) == 69) = false ∧ x = ⟨#[]⟩ ∧ a2 = en) ∨
  (a2 < s.size ∧ ((bt s (a2 : Nat) == 101) = true ∨ (bt s (a2 : Nat) == 101) = false ∧ (bt s (a2 : Nat) == 69) = true) ∧ (y.toList == ([] : List UInt8)) = true ∧ x = ⟨#[]⟩ ∧ a2 = en) ∨
  (a2 < s.size ∧ ((bt s (a2 : Nat) == 101) = true ∨ (bt s (a2 : Nat) == 101) = false ∧ (bt s (a2 : Nat) == 69) = true) ∧ (y.toList == ([] : List UInt8)) = false ∧ x = s.extract b2 x1 ∧ x1 = en)
theorem number_parts.exp_way (s : ByteArray) (h : number_parts.at2 s ≤ s.size) : number_parts.ExpWay s (number_parts.at2 s) (number_parts.at2 s + 1) (number_parts.x0 s) (number_parts.x1 s) (s.extract (number_parts.x0 s) (number_parts.x1 s))
  (if number_parts.hasE s = true then s.extract (number_parts.at2 s + 1) (number_parts.x1 s) else ⟨#[]⟩) (if number_parts.hasE s = true then number_parts.x1 s else number_parts.at2 s) := by
 unfold number_parts.ExpWay number_parts.hasE; by_cases hl : number_parts.at2 s < s.size
 ·have hx0 := number_parts.sgn_bd s (number_parts.at2 s + 1) hl; have hx1 := number_parts.stop_bd s (number_parts.x0 s) hx0.2.1; have hem := number_parts.cut_empty (s := s) hx1.1 hx1.2; cases hE : number_parts.isE s (number_parts.at2 s)
  ·unfold number_parts.isE at hE; rw [dt_ hl] at hE; have := Bool.or_eq_false_iff.1 hE
   exact .inr (.inl ⟨hl, this.1, this.2, rfl, rfl⟩)
  unfold number_parts.isE at hE; rw [dt_ hl] at hE; have h3 : (bt s (number_parts.at2 s : Nat) == 101) = true ∨ (bt s (number_parts.at2 s : Nat) == 101) = false ∧ (bt s (number_parts.at2 s : Nat) == 69) = true := by
   cases h4 : bt s (number_parts.at2 s : Nat) == 101
   ·rw [h4] at hE; exact .inr ⟨rfl, hE⟩
   exact .inl rfl
  by_cases h5 : number_parts.x0 s < number_parts.x1 s
  ·rw [dt_ h5]; exact .inr (.inr (.inr ⟨hl, h3, by rw [show number_parts.x1 s = number_parts.stop s (number_parts.x0 s) from rfl] at h5 ⊢; rw [hem, df_ (by omega)], rfl, rfl⟩))
  rw [df_ h5]; exact .inr (.inr (.inl ⟨hl, h3, by rw [show number_parts.x1 s = number_parts.stop s (number_parts.x0 s) from rfl] at h5 ⊢; rw [hem, dt_ (by have := hx1.1; omega)], rfl, rfl⟩))
 have : number_parts.isE s (number_parts.at2 s) = false := by unfold number_parts.isE; rw [df_ hl]; rfl
 rw [this]; exact .inl ⟨hl, rfl, rfl⟩

theorem number_parts.wr1 {i n : Nat} (h : i ≤ n) (hs : n ≤ 140737488351232) : wrap64 ((i : Int) + 1) = ((i + 1 : Nat) : Int) := by
 unfold wrap64; omega
theorem number_parts.wr2 {i n : Nat} (h : i ≤ n) (hs : n ≤ 140737488351232) : wrap64 (((i + 1 : Nat) : Int) - 1) = (i : Int) := by
 unfold wrap64; omega
theorem number_parts.St.drew {w W : World} {gs gt ga : Nat} {s : ByteArray} {c : Array Value} {i : Nat} (h : number_parts.St w W gs gt ga s c i) : number_parts.St w W.drew gs gt ga s c i :=
 ⟨below_drew1 h.b, ⟨blk_drew h.two.hs, blk_drew h.two.ha, h.two.lt⟩, blk_drew h.ht, h.lo, h.o1, h.o2⟩
theorem number_parts.St.setA0 {w W : World} {gs gt ga : Nat} {s : ByteArray} {c : Array Value} {i : Nat} (h : number_parts.St w W gs gt ga s c i) : number_parts.St w (W.setCell ⟨ga, 0, none⟩ (.int .i64 0)) gs gt ga s c 0 := h.setA 0
theorem number_parts.St.start {w w1 w2 w3 : World} {gs gt ga : Nat} {s : ByteArray} {c : Array Value} (k1 : gs = w.heap.size) (k2 : w1.heap[gs]? = some (.cells #[.string s] 9 (0, 0))) (k3 : Below w.heap.size w w1)
  (m1 : gt = w1.heap.size) (m2 : w2.heap[gt]? = some (.cells c 133 (0, 0))) (m3 : Below w1.heap.size w1 w2) (l1 : ga = w2.heap.size) (l2 : w3.heap[ga]? = some (.cells #[.int .i64 0] 3 (0, 0))) (l3 : Below w2.heap.size w2 w3) : number_parts.St w w3 gs gt ga s c 0 := by
 have a1 := blk_lt k2; have a2 := blk_lt m2; have a3 := m3.size; exact ⟨below_step (below_step k3 m3) l3, ⟨blk_below (blk_below k2 m3) l3, l2, by omega⟩, blk_below m2 l3, by omega, by omega, by omega⟩

set_option maxHeartbeats 40000000 in
theorem number_parts.walk (s sw p y x : ByteArray) (ng q : Bool) (a0 a1 b1 p1 a2 b2 x0 x1 en : Nat) (w : World) (hs : s.size ≤ 140737488351232)
  (h0 : number_parts.sgn s 0 = a0) (hn : number_parts.neg s 0 = ng) (h0b : a0 ≤ s.size) (h1 : number_parts.stop s a0 = a1) (h1b : a1 ≤ s.size) (hsw : s.extract a0 a1 = sw) (hb1 : b1 = a1 + 1)
  (hD : number_parts.DotWay s a1 b1 p1 a2 p) (hp1 : a1 < s.size → number_parts.stop s b1 = p1) (h2b : a2 ≤ s.size) (hb2 : b2 = a2 + 1)
  (hZ : ((sw.toList == ([] : List UInt8)) && (p.toList == ([] : List UInt8))) = false)
  (hE : number_parts.ExpWay s a2 b2 x0 x1 y x en) (hx0 : a2 < s.size → number_parts.sgn s b2 = x0) (hq : number_parts.neg s b2 = q) (hx0b : a2 < s.size → x0 ≤ s.size) (hx1 : a2 < s.size → number_parts.stop s x0 = x1) (hy : s.extract x0 x1 = y) (hx1b : a2 < s.size → b2 ≤ x1 ∧ x1 ≤ s.size) :
  Calls Tryd.prog 106 #[.string s] w fun e w' => e = .returned (.agg #[.bool ng, .string sw, .string p, .string x, .int .i64 en]) ∧ Below w.heap.size w w' := by
 have hu := Tryd.underlying133; have HB1 : Aside0 (a1 < s.size → b1 ≤ s.size) := ⟨fun h => by omega⟩
 have HB2 : Aside0 (a2 < s.size → b2 ≤ s.size) := ⟨fun h => by omega⟩
 have HN := am_ hs; have H0 := am_ h0; have HNG := am_ hn; have H0b := am_ h0b; have H1 := am_ h1; have HSW := am_ hsw; have HQ := am_ hq; have HY := am_ hy; have hW1 : wrap64 ((a1 : Int) + 1) = (b1 : Int) := by rw [hb1]; exact number_parts.wr1 h1b hs
 have hW2 : wrap64 ((b1 : Int) - 1) = (a1 : Int) := by rw [hb1]; exact number_parts.wr2 h1b hs
 have hW3 : wrap64 ((a2 : Int) + 1) = (b2 : Int) := by rw [hb2]; exact number_parts.wr1 h2b hs
 have HP1 := am_ hp1; have HX0 := am_ hx0; have HX0b := am_ hx0b; have HX1 := am_ hx1; have HX1b := am_ hx1b; clear hs h0 hn h0b h1 hsw hq hy hb1 hb2 hp1 hx0 hx0b hx1 hx1b h1b h2b; have HD : (∃ bw bp : Bool, (sw.toList == ([] : List UInt8)) = bw ∧ (p.toList == ([] : List UInt8)) = bp) := ⟨_, _, rfl, rfl⟩
 obtain ⟨bw, bp, hbw, hbp⟩ := HD; rw [hbw, hbp] at hZ; have hbw1 : (sw.toList != ([] : List UInt8)) = !bw := by rw [← hbw]; rfl
 have hbp1 : (p.toList != ([] : List UInt8)) = !bp := by rw [← hbp]; rfl
 obtain ⟨bd, hbd⟩ : ∃ bd : Bool, bd = number_parts.isDot s a1 := ⟨_, rfl⟩
 obtain ⟨be, hbe⟩ : ∃ be : Bool, be = number_parts.isE s a2 := ⟨_, rfl⟩
 have HBD := am_ hbd; have HBE := am_ hbe; have HD := am_ hD; have HE := am_ hE; clear hbd hbe hD hE; go_enter Tryd.func106, Tryd.ntmps106
 go_upto_region 6 with (first | ((with_reducible refine gate_dst (N := 1) rfl ?_); (try (refine gate_guard (by rfl) ?_; dsimp only)); refine box_event ?hg (N := 1) ?hd (cs := #[.string s]) (t := 9) ?hr ?_; (case hd => rfl); (case hg => rfl); (case hr => first | (go_simp; done) | (go_simp; rfl)); intro gs hg w1 hbox hb; have KB1 := am_ hb; have KS1 := am_ hbox; have KG1 := am_ hg; clear hg hbox hb) | ((with_reducible refine gate_dst (N := 2) rfl ?_); (try (refine gate_guard (by rfl) ?_; dsimp only)); refine box_event ?hg (N := 2) ?hd (cs := #[.bool false, .string (⟨#[]⟩ : ByteArray), .string (⟨#[]⟩ : ByteArray), .string (⟨#[]⟩ : ByteArray), .int .i64 0]) (t := 133) ?hr ?_; (case hd => rfl); (case hg => rfl); (case hr => first | (go_simp; done) | (go_simp; rfl)); intro gt hg w2 hbox hb; have KB2 := am_ hb; have KS2 := am_ hbox; have KG2 := am_ hg; clear hg hbox hb) | ((with_reducible refine gate_dst (N := 3) rfl ?_); (try (refine gate_guard (by rfl) ?_; dsimp only)); refine box_event ?hg (N := 3) ?hd (cs := #[.int .i64 0]) (t := 3) ?hr ?_; (case hd => rfl); (case hg => rfl); (case hr => first | (go_simp; done) | (go_simp; rfl)); intro ga hg w3 hbox hb; have KB3 := am_ hb; have KS3 := am_ hbox; have KG3 := am_ hg; clear hg hbox hb; have HP := am_ (number_parts.St.start KG1.out KS1.out KB1.out KG2.out KS2.out KB2.out KG3.out KS3.out KB3.out); have n1 : gs ≠ gt := Nat.ne_of_lt HP.out.o1; have n2 : gt ≠ gs := Nat.ne_of_gt HP.out.o1; have n3 : gt ≠ ga := Nat.ne_of_lt HP.out.o2; have n4 : ga ≠ gt := Nat.ne_of_gt HP.out.o2; have n5 : gs ≠ ga := Nat.ne_of_lt HP.out.two.lt; have n6 : ga ≠ gs := Nat.ne_of_gt HP.out.two.lt; have hcs : w3.cell? ⟨gs, 0, none⟩ = some (.string s) := (blk_cell HP.out.two.hs 0).trans rfl; have hca : w3.cell? ⟨ga, 0, none⟩ = some (.int .i64 0) := (blk_cell HP.out.two.ha 0).trans rfl; have hfa := blk_frozen HP.out.two.ha 0; have ht0 : w3.cell? ⟨gt, 0, none⟩ = some (.bool false) := (blk_cell HP.out.ht 0).trans rfl; have hf0 := blk_frozen HP.out.ht 0; have ht1 : w3.cell? ⟨gt, 1, none⟩ = some (.string (⟨#[]⟩ : ByteArray)) := (blk_cell HP.out.ht 1).trans rfl; have hf1 := blk_frozen HP.out.ht 1; have ht2 : w3.cell? ⟨gt, 2, none⟩ = some (.string (⟨#[]⟩ : ByteArray)) := (blk_cell HP.out.ht 2).trans rfl; have hf2 := blk_frozen HP.out.ht 2; have ht3 : w3.cell? ⟨gt, 3, none⟩ = some (.string (⟨#[]⟩ : ByteArray)) := (blk_cell HP.out.ht 3).trans rfl; have hf3 := blk_frozen HP.out.ht 3; have ht4 : w3.cell? ⟨gt, 4, none⟩ = some (.int .i64 0) := (blk_cell HP.out.ht 4).trans rfl; have hf4 := blk_frozen HP.out.ht 4) | (go_at_call 125; refine (number_parts.sign_st (w := w) (gt := gt) (c := #[.bool false, .string (⟨#[]⟩ : ByteArray), .string (⟨#[]⟩ : ByteArray), .string (⟨#[]⟩ : ByteArray), .int .i64 0]) (i := 0) ?st a0 ng HN.out (Nat.zero_le _) H0.out HNG.out).mono ?_; (case st => repeat (first | (with_reducible first | exact HP.out | apply number_parts.St.drewN | apply number_parts.St.drew | apply number_parts.St.setA0 | apply number_parts.St.setA | apply number_parts.St.setT) | exact (rfl : (_ : Array Value) = _))); rintro e w4 ⟨rfl, hp⟩; replace HP := am_ hp; clear hp; have hcs : w4.cell? ⟨gs, 0, none⟩ = some (.string s) := (blk_cell HP.out.two.hs 0).trans rfl; have hca : w4.cell? ⟨ga, 0, none⟩ = some (.int .i64 a0) := (blk_cell HP.out.two.ha 0).trans rfl; have hfa := blk_frozen HP.out.two.ha 0; have ht0 : w4.cell? ⟨gt, 0, none⟩ = some (.bool false) := (blk_cell HP.out.ht 0).trans rfl; have hf0 := blk_frozen HP.out.ht 0; have ht1 : w4.cell? ⟨gt, 1, none⟩ = some (.string (⟨#[]⟩ : ByteArray)) := (blk_cell HP.out.ht 1).trans rfl; have hf1 := blk_frozen HP.out.ht 1; have ht2 : w4.cell? ⟨gt, 2, none⟩ = some (.string (⟨#[]⟩ : ByteArray)) := (blk_cell HP.out.ht 2).trans rfl; have hf2 := blk_frozen HP.out.ht 2; have ht3 : w4.cell? ⟨gt, 3, none⟩ = some (.string (⟨#[]⟩ : ByteArray)) := (blk_cell HP.out.ht 3).trans rfl; have hf3 := blk_frozen HP.out.ht 3; have ht4 : w4.cell? ⟨gt, 4, none⟩ = some (.int .i64 0) := (blk_cell HP.out.ht 4).trans rfl; have hf4 := blk_frozen HP.out.ht 4) | (go_at_call 126; refine (number_parts.digits_st (w := w) (gt := gt) (c := #[.bool ng, .string (⟨#[]⟩ : ByteArray), .string (⟨#[]⟩ : ByteArray), .string (⟨#[]⟩ : ByteArray), .int .i64 0]) (i := a0) ?st a1 sw HN.out H0b.out H1.out HSW.out).mono ?_; (case st => repeat (first | (with_reducible first | exact HP.out | apply number_parts.St.drewN | apply number_parts.St.drew | apply number_parts.St.setA0 | apply number_parts.St.setA | apply number_parts.St.setT) | exact (rfl : (_ : Array Value) = _))); rintro e w5 ⟨rfl, hp⟩; replace HP := am_ hp; clear hp; have hcs : w5.cell? ⟨gs, 0, none⟩ = some (.string s) := (blk_cell HP.out.two.hs 0).trans rfl; have hca : w5.cell? ⟨ga, 0, none⟩ = some (.int .i64 a1) := (blk_cell HP.out.two.ha 0).trans rfl; have hfa := blk_frozen HP.out.two.ha 0; have ht0 : w5.cell? ⟨gt, 0, none⟩ = some (.bool ng) := (blk_cell HP.out.ht 0).trans rfl; have hf0 := blk_frozen HP.out.ht 0; have ht1 : w5.cell? ⟨gt, 1, none⟩ = some (.string (⟨#[]⟩ : ByteArray)) := (blk_cell HP.out.ht 1).trans rfl; have hf1 := blk_frozen HP.out.ht 1; have ht2 : w5.cell? ⟨gt, 2, none⟩ = some (.string (⟨#[]⟩ : ByteArray)) := (blk_cell HP.out.ht 2).trans rfl; have hf2 := blk_frozen HP.out.ht 2; have ht3 : w5.cell? ⟨gt, 3, none⟩ = some (.string (⟨#[]⟩ : ByteArray)) := (blk_cell HP.out.ht 3).trans rfl; have hf3 := blk_frozen HP.out.ht 3; have ht4 : w5.cell? ⟨gt, 4, none⟩ = some (.int .i64 0) := (blk_cell HP.out.ht 4).trans rfl; have hf4 := blk_frozen HP.out.ht 4))
 go_cut [24] (fun v24 wc => v24 = .bool bd ∧ Aside0 (number_parts.St w wc gs gt ga s #[.bool ng, .string sw, .string (⟨#[]⟩ : ByteArray), .string (⟨#[]⟩ : ByteArray), .int .i64 0] a1))
 case first =>
  by_cases d1 : a1 < s.size
  ·obtain ⟨qa, qb, qc, qd, qe, qf⟩ := number_parts.at_in d1; have d2 : bd = (bt s (a1 : Nat) == 46) := by rw [HBD.out]; unfold number_parts.isDot; rw [qd]; rfl
   have HD2 := am_ d2; clear d1 d2; go_wp2; go_meet
   case rel => exact ⟨by rw [HD2.out], ⟨by repeat (first | (with_reducible first | exact HP.out | apply number_parts.St.drewN | apply number_parts.St.drew | apply number_parts.St.setA0 | apply number_parts.St.setA | apply number_parts.St.setT) | exact (rfl : (_ : Array Value) = _))⟩⟩
  obtain ⟨qa, qb⟩ := number_parts.at_out d1; have d2 : bd = false := by rw [HBD.out]; unfold number_parts.isDot; rw [qb]; rfl
  have HD2 := am_ d2; clear d1 d2; go_wp2; go_meet
  case rel => exact ⟨by rw [HD2.out], ⟨by repeat (first | (with_reducible first | exact HP.out | apply number_parts.St.drewN | apply number_parts.St.drew | apply number_parts.St.setA0 | apply number_parts.St.setA | apply number_parts.St.setT) | exact (rfl : (_ : Array Value) = _))⟩⟩
 obtain ⟨rfl, HP⟩ := hcut; have hcs : wc.cell? ⟨gs, 0, none⟩ = some (.string s) := (blk_cell HP.out.two.hs 0).trans rfl; have hca : wc.cell? ⟨ga, 0, none⟩ = some (.int .i64 a1) := (blk_cell HP.out.two.ha 0).trans rfl; have hfa := blk_frozen HP.out.two.ha 0; have ht0 : wc.cell? ⟨gt, 0, none⟩ = some (.bool ng) := (blk_cell HP.out.ht 0).trans rfl; have hf0 := blk_frozen HP.out.ht 0; have ht1 : wc.cell? ⟨gt, 1, none⟩ = some (.string sw) := (blk_cell HP.out.ht 1).trans rfl; have hf1 := blk_frozen HP.out.ht 1; have ht2 : wc.cell? ⟨gt, 2, none⟩ = some (.string (⟨#[]⟩ : ByteArray)) := (blk_cell HP.out.ht 2).trans rfl; have hf2 := blk_frozen HP.out.ht 2; have ht3 : wc.cell? ⟨gt, 3, none⟩ = some (.string (⟨#[]⟩ : ByteArray)) := (blk_cell HP.out.ht 3).trans rfl; have hf3 := blk_frozen HP.out.ht 3; have ht4 : wc.cell? ⟨gt, 4, none⟩ = some (.int .i64 0) := (blk_cell HP.out.ht 4).trans rfl; have hf4 := blk_frozen HP.out.ht 4; go_upto_if 24 with (fail)
 go_cut [] (fun wc => Aside0 (number_parts.St w wc gs gt ga s #[.bool ng, .string sw, .string p, .string (⟨#[]⟩ : ByteArray), .int .i64 0] a2))
 case first =>
  rcases HD.out with ⟨d1, d2, d3⟩ | ⟨d1, d2, d3, d4⟩ | ⟨d1, d2, d3, d4, d5, d6⟩ | ⟨d1, d2, d3, d4, d5, d6⟩
  ·have d4 : bd = false := by rw [HBD.out]; unfold number_parts.isDot; rw [df_ d1]; rfl
   subst d4; replace d2 := am_ d2; replace d3 := am_ d3; clear d1; go_wp2; go_meet
   case rel =>
    rw [d2.out, d3.out]; exact ⟨by repeat (first | (with_reducible first | exact HP.out | apply number_parts.St.drewN | apply number_parts.St.drew | apply number_parts.St.setA0 | apply number_parts.St.setA | apply number_parts.St.setT) | exact (rfl : (_ : Array Value) = _))⟩
  ·have d5 : bd = false := by rw [HBD.out]; unfold number_parts.isDot; rw [d2, Bool.and_false]
   subst d5; replace d3 := am_ d3; replace d4 := am_ d4; clear d1 d2; go_wp2; go_meet
   case rel =>
    rw [d3.out, d4.out]; exact ⟨by repeat (first | (with_reducible first | exact HP.out | apply number_parts.St.drewN | apply number_parts.St.drew | apply number_parts.St.setA0 | apply number_parts.St.setA | apply number_parts.St.setT) | exact (rfl : (_ : Array Value) = _))⟩
  ·have HPP := am_ d5.symm; have HP2 := am_ (HP1.out d1); have HB3 := am_ (HB1.out d1); have d7 : bp = true := hbp.symm.trans d4; have d8 : bd = true := by rw [HBD.out]; unfold number_parts.isDot; rw [dt_ d1, d2]; rfl
   replace d6 := am_ d6; clear d1 d2 d4 d5 HP1 HB1; have HP1 := HP2; have HB1 := HB3; subst d7; subst d8; have d9 := d3.symm; subst d9; go_wp2_with (first | (go_at_call 126; refine (number_parts.digits_st (w := w) (gt := gt) (c := #[.bool ng, .string sw, .string (⟨#[]⟩ : ByteArray), .string (⟨#[]⟩ : ByteArray), .int .i64 0]) (i := b1) ?st b1 p HN.out HB1.out HP1.out HPP.out).mono ?_; (case st => repeat (first | (with_reducible first | exact HP.out | apply number_parts.St.drewN | apply number_parts.St.drew | apply number_parts.St.setA0 | apply number_parts.St.setA | apply number_parts.St.setT) | exact (rfl : (_ : Array Value) = _))); rintro e w6 ⟨rfl, hp⟩; replace HP := am_ hp; clear hp; have hcs : w6.cell? ⟨gs, 0, none⟩ = some (.string s) := (blk_cell HP.out.two.hs 0).trans rfl; have hca : w6.cell? ⟨ga, 0, none⟩ = some (.int .i64 b1) := (blk_cell HP.out.two.ha 0).trans rfl; have hfa := blk_frozen HP.out.two.ha 0; have ht0 : w6.cell? ⟨gt, 0, none⟩ = some (.bool ng) := (blk_cell HP.out.ht 0).trans rfl; have hf0 := blk_frozen HP.out.ht 0; have ht1 : w6.cell? ⟨gt, 1, none⟩ = some (.string sw) := (blk_cell HP.out.ht 1).trans rfl; have hf1 := blk_frozen HP.out.ht 1; have ht2 : w6.cell? ⟨gt, 2, none⟩ = some (.string (⟨#[]⟩ : ByteArray)) := (blk_cell HP.out.ht 2).trans rfl; have hf2 := blk_frozen HP.out.ht 2; have ht3 : w6.cell? ⟨gt, 3, none⟩ = some (.string (⟨#[]⟩ : ByteArray)) := (blk_cell HP.out.ht 3).trans rfl; have hf3 := blk_frozen HP.out.ht 3; have ht4 : w6.cell? ⟨gt, 4, none⟩ = some (.int .i64 0) := (blk_cell HP.out.ht 4).trans rfl; have hf4 := blk_frozen HP.out.ht 4))
   go_meet
   case rel =>
    rw [d6.out]; exact ⟨by repeat (first | (with_reducible first | exact HP.out | apply number_parts.St.drewN | apply number_parts.St.drew | apply number_parts.St.setA0 | apply number_parts.St.setA | apply number_parts.St.setT) | exact (rfl : (_ : Array Value) = _))⟩
  have HPP := am_ d5.symm; have HP2 := am_ (HP1.out d1); have HB3 := am_ (HB1.out d1); have d7 : bp = false := hbp.symm.trans d4; have d8 : bd = true := by rw [HBD.out]; unfold number_parts.isDot; rw [dt_ d1, d2]; rfl
  replace d6 := am_ d6; clear d1 d2 d3 d4 d5 HP1 HB1; have HP1 := HP2; have HB1 := HB3; subst d7; subst d8; go_wp2_with (first | (go_at_call 126; refine (number_parts.digits_st (w := w) (gt := gt) (c := #[.bool ng, .string sw, .string (⟨#[]⟩ : ByteArray), .string (⟨#[]⟩ : ByteArray), .int .i64 0]) (i := b1) ?st p1 p HN.out HB1.out HP1.out HPP.out).mono ?_; (case st => repeat (first | (with_reducible first | exact HP.out | apply number_parts.St.drewN | apply number_parts.St.drew | apply number_parts.St.setA0 | apply number_parts.St.setA | apply number_parts.St.setT) | exact (rfl : (_ : Array Value) = _))); rintro e w6 ⟨rfl, hp⟩; replace HP := am_ hp; clear hp; have hcs : w6.cell? ⟨gs, 0, none⟩ = some (.string s) := (blk_cell HP.out.two.hs 0).trans rfl; have hca : w6.cell? ⟨ga, 0, none⟩ = some (.int .i64 p1) := (blk_cell HP.out.two.ha 0).trans rfl; have hfa := blk_frozen HP.out.two.ha 0; have ht0 : w6.cell? ⟨gt, 0, none⟩ = some (.bool ng) := (blk_cell HP.out.ht 0).trans rfl; have hf0 := blk_frozen HP.out.ht 0; have ht1 : w6.cell? ⟨gt, 1, none⟩ = some (.string sw) := (blk_cell HP.out.ht 1).trans rfl; have hf1 := blk_frozen HP.out.ht 1; have ht2 : w6.cell? ⟨gt, 2, none⟩ = some (.string (⟨#[]⟩ : ByteArray)) := (blk_cell HP.out.ht 2).trans rfl; have hf2 := blk_frozen HP.out.ht 2; have ht3 : w6.cell? ⟨gt, 3, none⟩ = some (.string (⟨#[]⟩ : ByteArray)) := (blk_cell HP.out.ht 3).trans rfl; have hf3 := blk_frozen HP.out.ht 3; have ht4 : w6.cell? ⟨gt, 4, none⟩ = some (.int .i64 0) := (blk_cell HP.out.ht 4).trans rfl; have hf4 := blk_frozen HP.out.ht 4))
  go_meet
  case rel =>
   rw [d6.out]; exact ⟨by repeat (first | (with_reducible first | exact HP.out | apply number_parts.St.drewN | apply number_parts.St.drew | apply number_parts.St.setA0 | apply number_parts.St.setA | apply number_parts.St.setT) | exact (rfl : (_ : Array Value) = _))⟩
 have HP := hcut; clear hcut; have hcs : wc.cell? ⟨gs, 0, none⟩ = some (.string s) := (blk_cell HP.out.two.hs 0).trans rfl; have hca : wc.cell? ⟨ga, 0, none⟩ = some (.int .i64 a2) := (blk_cell HP.out.two.ha 0).trans rfl; have hfa := blk_frozen HP.out.two.ha 0; have ht0 : wc.cell? ⟨gt, 0, none⟩ = some (.bool ng) := (blk_cell HP.out.ht 0).trans rfl; have hf0 := blk_frozen HP.out.ht 0; have ht1 : wc.cell? ⟨gt, 1, none⟩ = some (.string sw) := (blk_cell HP.out.ht 1).trans rfl; have hf1 := blk_frozen HP.out.ht 1; have ht2 : wc.cell? ⟨gt, 2, none⟩ = some (.string p) := (blk_cell HP.out.ht 2).trans rfl; have hf2 := blk_frozen HP.out.ht 2; have ht3 : wc.cell? ⟨gt, 3, none⟩ = some (.string (⟨#[]⟩ : ByteArray)) := (blk_cell HP.out.ht 3).trans rfl; have hf3 := blk_frozen HP.out.ht 3; have ht4 : wc.cell? ⟨gt, 4, none⟩ = some (.int .i64 0) := (blk_cell HP.out.ht 4).trans rfl; have hf4 := blk_frozen HP.out.ht 4; go_upto_region 11 with (fail)
 go_cut [42] (fun v42 wc => v42 = .bool false ∧ Aside0 (number_parts.St w wc gs gt ga s #[.bool ng, .string sw, .string p, .string (⟨#[]⟩ : ByteArray), .int .i64 0] a2))
 case first =>
  cases bw
  ·go_wp2; go_meet
   case rel => exact ⟨rfl, ⟨by repeat (first | (with_reducible first | exact HP.out | apply number_parts.St.drewN | apply number_parts.St.drew | apply number_parts.St.setA0 | apply number_parts.St.setA | apply number_parts.St.setT) | exact (rfl : (_ : Array Value) = _))⟩⟩
  have d1 : bp = false := by simpa using hZ
  subst d1; go_wp2; go_meet
  case rel => exact ⟨rfl, ⟨by repeat (first | (with_reducible first | exact HP.out | apply number_parts.St.drewN | apply number_parts.St.drew | apply number_parts.St.setA0 | apply number_parts.St.setA | apply number_parts.St.setT) | exact (rfl : (_ : Array Value) = _))⟩⟩
 obtain ⟨rfl, HP⟩ := hcut; have hcs : wc.cell? ⟨gs, 0, none⟩ = some (.string s) := (blk_cell HP.out.two.hs 0).trans rfl; have hca : wc.cell? ⟨ga, 0, none⟩ = some (.int .i64 a2) := (blk_cell HP.out.two.ha 0).trans rfl; have hfa := blk_frozen HP.out.two.ha 0; have ht0 : wc.cell? ⟨gt, 0, none⟩ = some (.bool ng) := (blk_cell HP.out.ht 0).trans rfl; have hf0 := blk_frozen HP.out.ht 0; have ht1 : wc.cell? ⟨gt, 1, none⟩ = some (.string sw) := (blk_cell HP.out.ht 1).trans rfl; have hf1 := blk_frozen HP.out.ht 1; have ht2 : wc.cell? ⟨gt, 2, none⟩ = some (.string p) := (blk_cell HP.out.ht 2).trans rfl; have hf2 := blk_frozen HP.out.ht 2; have ht3 : wc.cell? ⟨gt, 3, none⟩ = some (.string (⟨#[]⟩ : ByteArray)) := (blk_cell HP.out.ht 3).trans rfl; have hf3 := blk_frozen HP.out.ht 3; have ht4 : wc.cell? ⟨gt, 4, none⟩ = some (.int .i64 0) := (blk_cell HP.out.ht 4).trans rfl; have hf4 := blk_frozen HP.out.ht 4; go_upto_region 14 with (fail)
 go_cut [61] (fun v61 wc => v61 = .bool be ∧ Aside0 (number_parts.St w wc gs gt ga s #[.bool ng, .string sw, .string p, .string (⟨#[]⟩ : ByteArray), .int .i64 a2] a2))
 case first =>
  by_cases d1 : a2 < s.size
  ·obtain ⟨qa, qb, qc, qd, qe, qf⟩ := number_parts.at_in d1; have d2 : be = ((bt s (a2 : Nat) == 101) || (bt s (a2 : Nat) == 69)) := by rw [HBE.out]; unfold number_parts.isE; rw [qd]; rfl
   have HD2 := am_ d2; clear d1 d2; cases d3 : (bt s (a2 : Nat) == 101)
   ·go_wp2; go_meet
    case rel => exact ⟨by rw [HD2.out, d3]; rfl, ⟨by repeat (first | (with_reducible first | exact HP.out | apply number_parts.St.drewN | apply number_parts.St.drew | apply number_parts.St.setA0 | apply number_parts.St.setA | apply number_parts.St.setT) | exact (rfl : (_ : Array Value) = _))⟩⟩
   go_wp2; go_meet
   case rel => exact ⟨by rw [HD2.out, d3]; rfl, ⟨by repeat (first | (with_reducible first | exact HP.out | apply number_parts.St.drewN | apply number_parts.St.drew | apply number_parts.St.setA0 | apply number_parts.St.setA | apply number_parts.St.setT) | exact (rfl : (_ : Array Value) = _))⟩⟩
  obtain ⟨qa, qb⟩ := number_parts.at_out d1; have d2 : be = false := by rw [HBE.out]; unfold number_parts.isE; rw [qb]; rfl
  have HD2 := am_ d2; clear d1 d2; go_wp2; go_meet
  case rel => exact ⟨by rw [HD2.out], ⟨by repeat (first | (with_reducible first | exact HP.out | apply number_parts.St.drewN | apply number_parts.St.drew | apply number_parts.St.setA0 | apply number_parts.St.setA | apply number_parts.St.setT) | exact (rfl : (_ : Array Value) = _))⟩⟩
 obtain ⟨rfl, HP⟩ := hcut; have hcs : wc.cell? ⟨gs, 0, none⟩ = some (.string s) := (blk_cell HP.out.two.hs 0).trans rfl; have hca : wc.cell? ⟨ga, 0, none⟩ = some (.int .i64 a2) := (blk_cell HP.out.two.ha 0).trans rfl; have hfa := blk_frozen HP.out.two.ha 0; have ht0 : wc.cell? ⟨gt, 0, none⟩ = some (.bool ng) := (blk_cell HP.out.ht 0).trans rfl; have hf0 := blk_frozen HP.out.ht 0; have ht1 : wc.cell? ⟨gt, 1, none⟩ = some (.string sw) := (blk_cell HP.out.ht 1).trans rfl; have hf1 := blk_frozen HP.out.ht 1; have ht2 : wc.cell? ⟨gt, 2, none⟩ = some (.string p) := (blk_cell HP.out.ht 2).trans rfl; have hf2 := blk_frozen HP.out.ht 2; have ht3 : wc.cell? ⟨gt, 3, none⟩ = some (.string (⟨#[]⟩ : ByteArray)) := (blk_cell HP.out.ht 3).trans rfl; have hf3 := blk_frozen HP.out.ht 3; have ht4 : wc.cell? ⟨gt, 4, none⟩ = some (.int .i64 a2) := (blk_cell HP.out.ht 4).trans rfl; have hf4 := blk_frozen HP.out.ht 4; go_upto_if 61 with (fail)
 go_cut [] (fun wc => ∃ i : Nat, Aside0 (number_parts.St w wc gs gt ga s #[.bool ng, .string sw, .string p, .string x, .int .i64 en] i))
 case first =>
  rcases HE.out with ⟨d1, d2, d3⟩ | ⟨d1, d2, d3, d4, d5⟩ | ⟨d1, d2, d3, d4, d5⟩ | ⟨d1, d2, d3, d4, d5⟩
  ·have d4 : be = false := by rw [HBE.out]; unfold number_parts.isE; rw [df_ d1]; rfl
   subst d4; replace d2 := am_ d2; replace d3 := am_ d3; clear d1; go_wp2; go_meet
   case rel =>
    rw [d2.out, ← d3.out]; exact ⟨_, ⟨by repeat (first | (with_reducible first | exact HP.out | apply number_parts.St.drewN | apply number_parts.St.drew | apply number_parts.St.setA0 | apply number_parts.St.setA | apply number_parts.St.setT) | exact (rfl : (_ : Array Value) = _))⟩⟩
  ·have d6 : be = false := by rw [HBE.out]; unfold number_parts.isE; rw [d2, d3, Bool.or_false, Bool.and_false]
   subst d6; replace d4 := am_ d4; replace d5 := am_ d5; clear d1 d2 d3; go_wp2; go_meet
   case rel =>
    rw [d4.out, ← d5.out]; exact ⟨_, ⟨by repeat (first | (with_reducible first | exact HP.out | apply number_parts.St.drewN | apply number_parts.St.drew | apply number_parts.St.setA0 | apply number_parts.St.setA | apply number_parts.St.setT) | exact (rfl : (_ : Array Value) = _))⟩⟩
  ·have d6 : be = true := by rw [HBE.out]; unfold number_parts.isE; rw [dt_ d1]; exact d2.elim (fun h => by rw [h]; rfl) (fun h => by rw [h.1, h.2]; rfl)
   subst d6; have H2 := am_ (HB2.out d1); have H3 := am_ (HX0.out d1); have H4 := am_ (HX0b.out d1); have H5 := am_ (HX1.out d1); clear HB2 HX0 HX0b HX1 HX1b; have HB2 := H2; have HX0 := H3; have HX0b := H4; have HX1 := H5; have e5 : (y.toList != ([] : List UInt8)) = false := by rw [bne, d3]; rfl
   replace d4 := am_ d4; replace d5 := am_ d5; clear d1 d2; go_wp2_with (first | (go_at_call 125; refine (number_parts.sign_st (w := w) (gt := gt) (c := #[.bool ng, .string sw, .string p, .string (⟨#[]⟩ : ByteArray), .int .i64 a2]) (i := b2) ?st x0 q HN.out HB2.out HX0.out HQ.out).mono ?_; (case st => repeat (first | (with_reducible first | exact HP.out | apply number_parts.St.drewN | apply number_parts.St.drew | apply number_parts.St.setA0 | apply number_parts.St.setA | apply number_parts.St.setT) | exact (rfl : (_ : Array Value) = _))); rintro e w7 ⟨rfl, hp⟩; replace HP := am_ hp; clear hp; have hcs : w7.cell? ⟨gs, 0, none⟩ = some (.string s) := (blk_cell HP.out.two.hs 0).trans rfl; have hca : w7.cell? ⟨ga, 0, none⟩ = some (.int .i64 x0) := (blk_cell HP.out.two.ha 0).trans rfl; have hfa := blk_frozen HP.out.two.ha 0; have ht0 : w7.cell? ⟨gt, 0, none⟩ = some (.bool ng) := (blk_cell HP.out.ht 0).trans rfl; have hf0 := blk_frozen HP.out.ht 0; have ht1 : w7.cell? ⟨gt, 1, none⟩ = some (.string sw) := (blk_cell HP.out.ht 1).trans rfl; have hf1 := blk_frozen HP.out.ht 1; have ht2 : w7.cell? ⟨gt, 2, none⟩ = some (.string p) := (blk_cell HP.out.ht 2).trans rfl; have hf2 := blk_frozen HP.out.ht 2; have ht3 : w7.cell? ⟨gt, 3, none⟩ = some (.string (⟨#[]⟩ : ByteArray)) := (blk_cell HP.out.ht 3).trans rfl; have hf3 := blk_frozen HP.out.ht 3; have ht4 : w7.cell? ⟨gt, 4, none⟩ = some (.int .i64 a2) := (blk_cell HP.out.ht 4).trans rfl; have hf4 := blk_frozen HP.out.ht 4) | (go_at_call 126; refine (number_parts.digits_st (w := w) (gt := gt) (c := #[.bool ng, .string sw, .string p, .string (⟨#[]⟩ : ByteArray), .int .i64 a2]) (i := x0) ?st x1 y HN.out HX0b.out HX1.out HY.out).mono ?_; (case st => repeat (first | (with_reducible first | exact HP.out | apply number_parts.St.drewN | apply number_parts.St.drew | apply number_parts.St.setA0 | apply number_parts.St.setA | apply number_parts.St.setT) | exact (rfl : (_ : Array Value) = _))); rintro e w8 ⟨rfl, hp⟩; replace HP := am_ hp; clear hp; have hcs : w8.cell? ⟨gs, 0, none⟩ = some (.string s) := (blk_cell HP.out.two.hs 0).trans rfl; have hca : w8.cell? ⟨ga, 0, none⟩ = some (.int .i64 x1) := (blk_cell HP.out.two.ha 0).trans rfl; have hfa := blk_frozen HP.out.two.ha 0; have ht0 : w8.cell? ⟨gt, 0, none⟩ = some (.bool ng) := (blk_cell HP.out.ht 0).trans rfl; have hf0 := blk_frozen HP.out.ht 0; have ht1 : w8.cell? ⟨gt, 1, none⟩ = some (.string sw) := (blk_cell HP.out.ht 1).trans rfl; have hf1 := blk_frozen HP.out.ht 1; have ht2 : w8.cell? ⟨gt, 2, none⟩ = some (.string p) := (blk_cell HP.out.ht 2).trans rfl; have hf2 := blk_frozen HP.out.ht 2; have ht3 : w8.cell? ⟨gt, 3, none⟩ = some (.string (⟨#[]⟩ : ByteArray)) := (blk_cell HP.out.ht 3).trans rfl; have hf3 := blk_frozen HP.out.ht 3; have ht4 : w8.cell? ⟨gt, 4, none⟩ = some (.int .i64 a2) := (blk_cell HP.out.ht 4).trans rfl; have hf4 := blk_frozen HP.out.ht 4))
   go_meet
   case rel =>
    rw [d4.out, ← d5.out]; exact ⟨_, ⟨by repeat (first | (with_reducible first | exact HP.out | apply number_parts.St.drewN | apply number_parts.St.drew | apply number_parts.St.setA0 | apply number_parts.St.setA | apply number_parts.St.setT) | exact (rfl : (_ : Array Value) = _))⟩⟩
  have d6 : be = true := by rw [HBE.out]; unfold number_parts.isE; rw [dt_ d1]; exact d2.elim (fun h => by rw [h]; rfl) (fun h => by rw [h.1, h.2]; rfl)
  subst d6; have HX := am_ (HX1b.out d1); have H2 := am_ (HB2.out d1); have H3 := am_ (HX0.out d1); have H4 := am_ (HX0b.out d1); have H5 := am_ (HX1.out d1); clear HB2 HX0 HX0b HX1 HX1b; have HB2 := H2; have HX0 := H3; have HX0b := H4; have HX1 := H5; have e5 : (y.toList != ([] : List UInt8)) = true := by rw [bne, d3]; rfl
  replace d4 := am_ d4; replace d5 := am_ d5; have sa : (b2 ≤ x1) = True := eq_true HX.out.1; have sb : (x1 ≤ s.size) = True := eq_true HX.out.2; have sc : ((b2 : Int) ≤ (x1 : Int)) = True := eq_true (Int.ofNat_le.2 HX.out.1); have sd : ((x1 : Int) ≤ (s.size : Int)) = True := eq_true (Int.ofNat_le.2 HX.out.2); have se : decide (b2 ≤ x1) = true := dt_ HX.out.1; have sf : decide (x1 ≤ s.size) = true := dt_ HX.out.2; have sg : (0 ≤ (b2 : Int)) = True := eq_true (Int.natCast_nonneg b2); clear d1 d2; go_wp2_with (first | (go_at_call 125; refine (number_parts.sign_st (w := w) (gt := gt) (c := #[.bool ng, .string sw, .string p, .string (⟨#[]⟩ : ByteArray), .int .i64 a2]) (i := b2) ?st x0 q HN.out HB2.out HX0.out HQ.out).mono ?_; (case st => repeat (first | (with_reducible first | exact HP.out | apply number_parts.St.drewN | apply number_parts.St.drew | apply number_parts.St.setA0 | apply number_parts.St.setA | apply number_parts.St.setT) | exact (rfl : (_ : Array Value) = _))); rintro e w7 ⟨rfl, hp⟩; replace HP := am_ hp; clear hp; have hcs : w7.cell? ⟨gs, 0, none⟩ = some (.string s) := (blk_cell HP.out.two.hs 0).trans rfl; have hca : w7.cell? ⟨ga, 0, none⟩ = some (.int .i64 x0) := (blk_cell HP.out.two.ha 0).trans rfl; have hfa := blk_frozen HP.out.two.ha 0; have ht0 : w7.cell? ⟨gt, 0, none⟩ = some (.bool ng) := (blk_cell HP.out.ht 0).trans rfl; have hf0 := blk_frozen HP.out.ht 0; have ht1 : w7.cell? ⟨gt, 1, none⟩ = some (.string sw) := (blk_cell HP.out.ht 1).trans rfl; have hf1 := blk_frozen HP.out.ht 1; have ht2 : w7.cell? ⟨gt, 2, none⟩ = some (.string p) := (blk_cell HP.out.ht 2).trans rfl; have hf2 := blk_frozen HP.out.ht 2; have ht3 : w7.cell? ⟨gt, 3, none⟩ = some (.string (⟨#[]⟩ : ByteArray)) := (blk_cell HP.out.ht 3).trans rfl; have hf3 := blk_frozen HP.out.ht 3; have ht4 : w7.cell? ⟨gt, 4, none⟩ = some (.int .i64 a2) := (blk_cell HP.out.ht 4).trans rfl; have hf4 := blk_frozen HP.out.ht 4) | (go_at_call 126; refine (number_parts.digits_st (w := w) (gt := gt) (c := #[.bool ng, .string sw, .string p, .string (⟨#[]⟩ : ByteArray), .int .i64 a2]) (i := x0) ?st x1 y HN.out HX0b.out HX1.out HY.out).mono ?_; (case st => repeat (first | (with_reducible first | exact HP.out | apply number_parts.St.drewN | apply number_parts.St.drew | apply number_parts.St.setA0 | apply number_parts.St.setA | apply number_parts.St.setT) | exact (rfl : (_ : Array Value) = _))); rintro e w8 ⟨rfl, hp⟩; replace HP := am_ hp; clear hp; have hcs : w8.cell? ⟨gs, 0, none⟩ = some (.string s) := (blk_cell HP.out.two.hs 0).trans rfl; have hca : w8.cell? ⟨ga, 0, none⟩ = some (.int .i64 x1) := (blk_cell HP.out.two.ha 0).trans rfl; have hfa := blk_frozen HP.out.two.ha 0; have ht0 : w8.cell? ⟨gt, 0, none⟩ = some (.bool ng) := (blk_cell HP.out.ht 0).trans rfl; have hf0 := blk_frozen HP.out.ht 0; have ht1 : w8.cell? ⟨gt, 1, none⟩ = some (.string sw) := (blk_cell HP.out.ht 1).trans rfl; have hf1 := blk_frozen HP.out.ht 1; have ht2 : w8.cell? ⟨gt, 2, none⟩ = some (.string p) := (blk_cell HP.out.ht 2).trans rfl; have hf2 := blk_frozen HP.out.ht 2; have ht3 : w8.cell? ⟨gt, 3, none⟩ = some (.string (⟨#[]⟩ : ByteArray)) := (blk_cell HP.out.ht 3).trans rfl; have hf3 := blk_frozen HP.out.ht 3; have ht4 : w8.cell? ⟨gt, 4, none⟩ = some (.int .i64 a2) := (blk_cell HP.out.ht 4).trans rfl; have hf4 := blk_frozen HP.out.ht 4))
  go_region
  all_goals
   go_wp2; go_meet
   case rel =>
    rw [d4.out, ← d5.out]; exact ⟨_, ⟨by repeat (first | (with_reducible first | exact HP.out | apply number_parts.St.drewN | apply number_parts.St.drew | apply number_parts.St.setA0 | apply number_parts.St.setA | apply number_parts.St.setT) | exact (rfl : (_ : Array Value) = _))⟩⟩
 obtain ⟨i, HP⟩ := hcut; have hcs : wc.cell? ⟨gs, 0, none⟩ = some (.string s) := (blk_cell HP.out.two.hs 0).trans rfl; have hca : wc.cell? ⟨ga, 0, none⟩ = some (.int .i64 i) := (blk_cell HP.out.two.ha 0).trans rfl; have hfa := blk_frozen HP.out.two.ha 0; have ht0 : wc.cell? ⟨gt, 0, none⟩ = some (.bool ng) := (blk_cell HP.out.ht 0).trans rfl; have hf0 := blk_frozen HP.out.ht 0; have ht1 : wc.cell? ⟨gt, 1, none⟩ = some (.string sw) := (blk_cell HP.out.ht 1).trans rfl; have hf1 := blk_frozen HP.out.ht 1; have ht2 : wc.cell? ⟨gt, 2, none⟩ = some (.string p) := (blk_cell HP.out.ht 2).trans rfl; have hf2 := blk_frozen HP.out.ht 2; have ht3 : wc.cell? ⟨gt, 3, none⟩ = some (.string x) := (blk_cell HP.out.ht 3).trans rfl; have hf3 := blk_frozen HP.out.ht 3; have ht4 : wc.cell? ⟨gt, 4, none⟩ = some (.int .i64 en) := (blk_cell HP.out.ht 4).trans rfl; have hf4 := blk_frozen HP.out.ht 4; go_wp2; refine bodyPost_ret (results_cell_row rfl _ _ gt 133 #[.bool ng, .string sw, .string p, .string x, .int .i64 en] (0, 0) _ rfl (show _ from (by repeat (first | (with_reducible first | exact HP.out | apply number_parts.St.drewN | apply number_parts.St.drew | apply number_parts.St.setA0 | apply number_parts.St.setA | apply number_parts.St.setT) | exact (rfl : (_ : Array Value) = _)) : number_parts.St w _ gs gt ga s #[.bool ng, .string sw, .string p, .string x, .int .i64 en] _).ht) Tryd.underlying133 rfl (by kernel_rfl)) rfl ?_
 exact ⟨rfl, (by repeat (first | (with_reducible first | exact HP.out | apply number_parts.St.drewN | apply number_parts.St.drew | apply number_parts.St.setA0 | apply number_parts.St.setA | apply number_parts.St.setT) | exact (rfl : (_ : Array Value) = _)) : number_parts.St w _ gs gt ga s #[.bool ng, .string sw, .string p, .string x, .int .i64 en] _).b⟩

set_option maxHeartbeats 40000000 in
theorem number_parts.walk0 (s sw p y x : ByteArray) (ng q : Bool) (a0 a1 b1 p1 a2 b2 x0 x1 en : Nat) (w : World) (hs : s.size ≤ 140737488351232)
  (h0 : number_parts.sgn s 0 = a0) (hn : number_parts.neg s 0 = ng) (h0b : a0 ≤ s.size) (h1 : number_parts.stop s a0 = a1) (h1b : a1 ≤ s.size) (hsw : s.extract a0 a1 = sw) (hb1 : b1 = a1 + 1)
  (hD : number_parts.DotWay s a1 b1 p1 a2 p) (hp1 : a1 < s.size → number_parts.stop s b1 = p1) (h2b : a2 ≤ s.size) (hb2 : b2 = a2 + 1)
  (hZ : ((sw.toList == ([] : List UInt8)) && (p.toList == ([] : List UInt8))) = true)
  (hx0 : a2 < s.size → number_parts.sgn s b2 = x0) (hq : number_parts.neg s b2 = q) (hx0b : a2 < s.size → x0 ≤ s.size) (hx1 : a2 < s.size → number_parts.stop s x0 = x1) (hy : s.extract x0 x1 = y) (hx1b : a2 < s.size → b2 ≤ x1 ∧ x1 ≤ s.size) :
  Calls Tryd.prog 106 #[.string s] w fun e w' => e = .returned (.agg #[.bool false, .string (⟨#[]⟩ : ByteArray), .string (⟨#[]⟩ : ByteArray), .string (⟨#[]⟩ : ByteArray), .int .i64 0]) ∧ Below w.heap.size w w' := by
 have hu := Tryd.underlying133; have HB1 : Aside0 (a1 < s.size → b1 ≤ s.size) := ⟨fun h => by omega⟩
 have HB2 : Aside0 (a2 < s.size → b2 ≤ s.size) := ⟨fun h => by omega⟩
 have HN := am_ hs; have H0 := am_ h0; have HNG := am_ hn; have H0b := am_ h0b; have H1 := am_ h1; have HSW := am_ hsw; have HQ := am_ hq; have HY := am_ hy; have hW1 : wrap64 ((a1 : Int) + 1) = (b1 : Int) := by rw [hb1]; exact number_parts.wr1 h1b hs
 have hW2 : wrap64 ((b1 : Int) - 1) = (a1 : Int) := by rw [hb1]; exact number_parts.wr2 h1b hs
 have hW3 : wrap64 ((a2 : Int) + 1) = (b2 : Int) := by rw [hb2]; exact number_parts.wr1 h2b hs
 have HP1 := am_ hp1; have HX0 := am_ hx0; have HX0b := am_ hx0b; have HX1 := am_ hx1; have HX1b := am_ hx1b; clear hs h0 hn h0b h1 hsw hq hy hb1 hb2 hp1 hx0 hx0b hx1 hx1b h1b h2b; have HD : (∃ bw bp : Bool, (sw.toList == ([] : List UInt8)) = bw ∧ (p.toList == ([] : List UInt8)) = bp) := ⟨_, _, rfl, rfl⟩
 obtain ⟨bw, bp, hbw, hbp⟩ := HD; rw [hbw, hbp] at hZ; have hbw1 : (sw.toList != ([] : List UInt8)) = !bw := by rw [← hbw]; rfl
 have hbp1 : (p.toList != ([] : List UInt8)) = !bp := by rw [← hbp]; rfl
 obtain ⟨bd, hbd⟩ : ∃ bd : Bool, bd = number_parts.isDot s a1 := ⟨_, rfl⟩
 have HBD := am_ hbd; have HD := am_ hD; clear hbd hD; go_enter Tryd.func106, Tryd.ntmps106
 go_upto_region 6 with (first | ((with_reducible refine gate_dst (N := 1) rfl ?_); (try (refine gate_guard (by rfl) ?_; dsimp only)); refine box_event ?hg (N := 1) ?hd (cs := #[.string s]) (t := 9) ?hr ?_; (case hd => rfl); (case hg => rfl); (case hr => first | (go_simp; done) | (go_simp; rfl)); intro gs hg w1 hbox hb; have KB1 := am_ hb; have KS1 := am_ hbox; have KG1 := am_ hg; clear hg hbox hb) | ((with_reducible refine gate_dst (N := 2) rfl ?_); (try (refine gate_guard (by rfl) ?_; dsimp only)); refine box_event ?hg (N := 2) ?hd (cs := #[.bool false, .string (⟨#[]⟩ : ByteArray), .string (⟨#[]⟩ : ByteArray), .string (⟨#[]⟩ : ByteArray), .int .i64 0]) (t := 133) ?hr ?_; (case hd => rfl); (case hg => rfl); (case hr => first | (go_simp; done) | (go_simp; rfl)); intro gt hg w2 hbox hb; have KB2 := am_ hb; have KS2 := am_ hbox; have KG2 := am_ hg; clear hg hbox hb) | ((with_reducible refine gate_dst (N := 3) rfl ?_); (try (refine gate_guard (by rfl) ?_; dsimp only)); refine box_event ?hg (N := 3) ?hd (cs := #[.int .i64 0]) (t := 3) ?hr ?_; (case hd => rfl); (case hg => rfl); (case hr => first | (go_simp; done) | (go_simp; rfl)); intro ga hg w3 hbox hb; have KB3 := am_ hb; have KS3 := am_ hbox; have KG3 := am_ hg; clear hg hbox hb; have HP := am_ (number_parts.St.start KG1.out KS1.out KB1.out KG2.out KS2.out KB2.out KG3.out KS3.out KB3.out); have n1 : gs ≠ gt := Nat.ne_of_lt HP.out.o1; have n2 : gt ≠ gs := Nat.ne_of_gt HP.out.o1; have n3 : gt ≠ ga := Nat.ne_of_lt HP.out.o2; have n4 : ga ≠ gt := Nat.ne_of_gt HP.out.o2; have n5 : gs ≠ ga := Nat.ne_of_lt HP.out.two.lt; have n6 : ga ≠ gs := Nat.ne_of_gt HP.out.two.lt; have hcs : w3.cell? ⟨gs, 0, none⟩ = some (.string s) := (blk_cell HP.out.two.hs 0).trans rfl; have hca : w3.cell? ⟨ga, 0, none⟩ = some (.int .i64 0) := (blk_cell HP.out.two.ha 0).trans rfl; have hfa := blk_frozen HP.out.two.ha 0; have ht0 : w3.cell? ⟨gt, 0, none⟩ = some (.bool false) := (blk_cell HP.out.ht 0).trans rfl; have hf0 := blk_frozen HP.out.ht 0; have ht1 : w3.cell? ⟨gt, 1, none⟩ = some (.string (⟨#[]⟩ : ByteArray)) := (blk_cell HP.out.ht 1).trans rfl; have hf1 := blk_frozen HP.out.ht 1; have ht2 : w3.cell? ⟨gt, 2, none⟩ = some (.string (⟨#[]⟩ : ByteArray)) := (blk_cell HP.out.ht 2).trans rfl; have hf2 := blk_frozen HP.out.ht 2; have ht3 : w3.cell? ⟨gt, 3, none⟩ = some (.string (⟨#[]⟩ : ByteArray)) := (blk_cell HP.out.ht 3).trans rfl; have hf3 := blk_frozen HP.out.ht 3; have ht4 : w3.cell? ⟨gt, 4, none⟩ = some (.int .i64 0) := (blk_cell HP.out.ht 4).trans rfl; have hf4 := blk_frozen HP.out.ht 4) | (go_at_call 125; refine (number_parts.sign_st (w := w) (gt := gt) (c := #[.bool false, .string (⟨#[]⟩ : ByteArray), .string (⟨#[]⟩ : ByteArray), .string (⟨#[]⟩ : ByteArray), .int .i64 0]) (i := 0) ?st a0 ng HN.out (Nat.zero_le _) H0.out HNG.out).mono ?_; (case st => repeat (first | (with_reducible first | exact HP.out | apply number_parts.St.drewN | apply number_parts.St.drew | apply number_parts.St.setA0 | apply number_parts.St.setA | apply number_parts.St.setT) | exact (rfl : (_ : Array Value) = _))); rintro e w4 ⟨rfl, hp⟩; replace HP := am_ hp; clear hp; have hcs : w4.cell? ⟨gs, 0, none⟩ = some (.string s) := (blk_cell HP.out.two.hs 0).trans rfl; have hca : w4.cell? ⟨ga, 0, none⟩ = some (.int .i64 a0) := (blk_cell HP.out.two.ha 0).trans rfl; have hfa := blk_frozen HP.out.two.ha 0; have ht0 : w4.cell? ⟨gt, 0, none⟩ = some (.bool false) := (blk_cell HP.out.ht 0).trans rfl; have hf0 := blk_frozen HP.out.ht 0; have ht1 : w4.cell? ⟨gt, 1, none⟩ = some (.string (⟨#[]⟩ : ByteArray)) := (blk_cell HP.out.ht 1).trans rfl; have hf1 := blk_frozen HP.out.ht 1; have ht2 : w4.cell? ⟨gt, 2, none⟩ = some (.string (⟨#[]⟩ : ByteArray)) := (blk_cell HP.out.ht 2).trans rfl; have hf2 := blk_frozen HP.out.ht 2; have ht3 : w4.cell? ⟨gt, 3, none⟩ = some (.string (⟨#[]⟩ : ByteArray)) := (blk_cell HP.out.ht 3).trans rfl; have hf3 := blk_frozen HP.out.ht 3; have ht4 : w4.cell? ⟨gt, 4, none⟩ = some (.int .i64 0) := (blk_cell HP.out.ht 4).trans rfl; have hf4 := blk_frozen HP.out.ht 4) | (go_at_call 126; refine (number_parts.digits_st (w := w) (gt := gt) (c := #[.bool ng, .string (⟨#[]⟩ : ByteArray), .string (⟨#[]⟩ : ByteArray), .string (⟨#[]⟩ : ByteArray), .int .i64 0]) (i := a0) ?st a1 sw HN.out H0b.out H1.out HSW.out).mono ?_; (case st => repeat (first | (with_reducible first | exact HP.out | apply number_parts.St.drewN | apply number_parts.St.drew | apply number_parts.St.setA0 | apply number_parts.St.setA | apply number_parts.St.setT) | exact (rfl : (_ : Array Value) = _))); rintro e w5 ⟨rfl, hp⟩; replace HP := am_ hp; clear hp; have hcs : w5.cell? ⟨gs, 0, none⟩ = some (.string s) := (blk_cell HP.out.two.hs 0).trans rfl; have hca : w5.cell? ⟨ga, 0, none⟩ = some (.int .i64 a1) := (blk_cell HP.out.two.ha 0).trans rfl; have hfa := blk_frozen HP.out.two.ha 0; have ht0 : w5.cell? ⟨gt, 0, none⟩ = some (.bool ng) := (blk_cell HP.out.ht 0).trans rfl; have hf0 := blk_frozen HP.out.ht 0; have ht1 : w5.cell? ⟨gt, 1, none⟩ = some (.string (⟨#[]⟩ : ByteArray)) := (blk_cell HP.out.ht 1).trans rfl; have hf1 := blk_frozen HP.out.ht 1; have ht2 : w5.cell? ⟨gt, 2, none⟩ = some (.string (⟨#[]⟩ : ByteArray)) := (blk_cell HP.out.ht 2).trans rfl; have hf2 := blk_frozen HP.out.ht 2; have ht3 : w5.cell? ⟨gt, 3, none⟩ = some (.string (⟨#[]⟩ : ByteArray)) := (blk_cell HP.out.ht 3).trans rfl; have hf3 := blk_frozen HP.out.ht 3; have ht4 : w5.cell? ⟨gt, 4, none⟩ = some (.int .i64 0) := (blk_cell HP.out.ht 4).trans rfl; have hf4 := blk_frozen HP.out.ht 4))
 go_cut [24] (fun v24 wc => v24 = .bool bd ∧ Aside0 (number_parts.St w wc gs gt ga s #[.bool ng, .string sw, .string (⟨#[]⟩ : ByteArray), .string (⟨#[]⟩ : ByteArray), .int .i64 0] a1))
 case first =>
  by_cases d1 : a1 < s.size
  ·obtain ⟨qa, qb, qc, qd, qe, qf⟩ := number_parts.at_in d1; have d2 : bd = (bt s (a1 : Nat) == 46) := by rw [HBD.out]; unfold number_parts.isDot; rw [qd]; rfl
   have HD2 := am_ d2; clear d1 d2; go_wp2; go_meet
   case rel => exact ⟨by rw [HD2.out], ⟨by repeat (first | (with_reducible first | exact HP.out | apply number_parts.St.drewN | apply number_parts.St.drew | apply number_parts.St.setA0 | apply number_parts.St.setA | apply number_parts.St.setT) | exact (rfl : (_ : Array Value) = _))⟩⟩
  obtain ⟨qa, qb⟩ := number_parts.at_out d1; have d2 : bd = false := by rw [HBD.out]; unfold number_parts.isDot; rw [qb]; rfl
  have HD2 := am_ d2; clear d1 d2; go_wp2; go_meet
  case rel => exact ⟨by rw [HD2.out], ⟨by repeat (first | (with_reducible first | exact HP.out | apply number_parts.St.drewN | apply number_parts.St.drew | apply number_parts.St.setA0 | apply number_parts.St.setA | apply number_parts.St.setT) | exact (rfl : (_ : Array Value) = _))⟩⟩
 obtain ⟨rfl, HP⟩ := hcut; have hcs : wc.cell? ⟨gs, 0, none⟩ = some (.string s) := (blk_cell HP.out.two.hs 0).trans rfl; have hca : wc.cell? ⟨ga, 0, none⟩ = some (.int .i64 a1) := (blk_cell HP.out.two.ha 0).trans rfl; have hfa := blk_frozen HP.out.two.ha 0; have ht0 : wc.cell? ⟨gt, 0, none⟩ = some (.bool ng) := (blk_cell HP.out.ht 0).trans rfl; have hf0 := blk_frozen HP.out.ht 0; have ht1 : wc.cell? ⟨gt, 1, none⟩ = some (.string sw) := (blk_cell HP.out.ht 1).trans rfl; have hf1 := blk_frozen HP.out.ht 1; have ht2 : wc.cell? ⟨gt, 2, none⟩ = some (.string (⟨#[]⟩ : ByteArray)) := (blk_cell HP.out.ht 2).trans rfl; have hf2 := blk_frozen HP.out.ht 2; have ht3 : wc.cell? ⟨gt, 3, none⟩ = some (.string (⟨#[]⟩ : ByteArray)) := (blk_cell HP.out.ht 3).trans rfl; have hf3 := blk_frozen HP.out.ht 3; have ht4 : wc.cell? ⟨gt, 4, none⟩ = some (.int .i64 0) := (blk_cell HP.out.ht 4).trans rfl; have hf4 := blk_frozen HP.out.ht 4; go_upto_if 24 with (fail)
 go_cut [] (fun wc => Aside0 (number_parts.St w wc gs gt ga s #[.bool ng, .string sw, .string p, .string (⟨#[]⟩ : ByteArray), .int .i64 0] a2))
 case first =>
  rcases HD.out with ⟨d1, d2, d3⟩ | ⟨d1, d2, d3, d4⟩ | ⟨d1, d2, d3, d4, d5, d6⟩ | ⟨d1, d2, d3, d4, d5, d6⟩
  ·have d4 : bd = false := by rw [HBD.out]; unfold number_parts.isDot; rw [df_ d1]; rfl
   subst d4; replace d2 := am_ d2; replace d3 := am_ d3; clear d1; go_wp2; go_meet
   case rel =>
    rw [d2.out, d3.out]; exact ⟨by repeat (first | (with_reducible first | exact HP.out | apply number_parts.St.drewN | apply number_parts.St.drew | apply number_parts.St.setA0 | apply number_parts.St.setA | apply number_parts.St.setT) | exact (rfl : (_ : Array Value) = _))⟩
  ·have d5 : bd = false := by rw [HBD.out]; unfold number_parts.isDot; rw [d2, Bool.and_false]
   subst d5; replace d3 := am_ d3; replace d4 := am_ d4; clear d1 d2; go_wp2; go_meet
   case rel =>
    rw [d3.out, d4.out]; exact ⟨by repeat (first | (with_reducible first | exact HP.out | apply number_parts.St.drewN | apply number_parts.St.drew | apply number_parts.St.setA0 | apply number_parts.St.setA | apply number_parts.St.setT) | exact (rfl : (_ : Array Value) = _))⟩
  ·have HPP := am_ d5.symm; have HP2 := am_ (HP1.out d1); have HB3 := am_ (HB1.out d1); have d7 : bp = true := hbp.symm.trans d4; have d8 : bd = true := by rw [HBD.out]; unfold number_parts.isDot; rw [dt_ d1, d2]; rfl
   replace d6 := am_ d6; clear d1 d2 d4 d5 HP1 HB1; have HP1 := HP2; have HB1 := HB3; subst d7; subst d8; have d9 := d3.symm; subst d9; go_wp2_with (first | (go_at_call 126; refine (number_parts.digits_st (w := w) (gt := gt) (c := #[.bool ng, .string sw, .string (⟨#[]⟩ : ByteArray), .string (⟨#[]⟩ : ByteArray), .int .i64 0]) (i := b1) ?st b1 p HN.out HB1.out HP1.out HPP.out).mono ?_; (case st => repeat (first | (with_reducible first | exact HP.out | apply number_parts.St.drewN | apply number_parts.St.drew | apply number_parts.St.setA0 | apply number_parts.St.setA | apply number_parts.St.setT) | exact (rfl : (_ : Array Value) = _))); rintro e w6 ⟨rfl, hp⟩; replace HP := am_ hp; clear hp; have hcs : w6.cell? ⟨gs, 0, none⟩ = some (.string s) := (blk_cell HP.out.two.hs 0).trans rfl; have hca : w6.cell? ⟨ga, 0, none⟩ = some (.int .i64 b1) := (blk_cell HP.out.two.ha 0).trans rfl; have hfa := blk_frozen HP.out.two.ha 0; have ht0 : w6.cell? ⟨gt, 0, none⟩ = some (.bool ng) := (blk_cell HP.out.ht 0).trans rfl; have hf0 := blk_frozen HP.out.ht 0; have ht1 : w6.cell? ⟨gt, 1, none⟩ = some (.string sw) := (blk_cell HP.out.ht 1).trans rfl; have hf1 := blk_frozen HP.out.ht 1; have ht2 : w6.cell? ⟨gt, 2, none⟩ = some (.string (⟨#[]⟩ : ByteArray)) := (blk_cell HP.out.ht 2).trans rfl; have hf2 := blk_frozen HP.out.ht 2; have ht3 : w6.cell? ⟨gt, 3, none⟩ = some (.string (⟨#[]⟩ : ByteArray)) := (blk_cell HP.out.ht 3).trans rfl; have hf3 := blk_frozen HP.out.ht 3; have ht4 : w6.cell? ⟨gt, 4, none⟩ = some (.int .i64 0) := (blk_cell HP.out.ht 4).trans rfl; have hf4 := blk_frozen HP.out.ht 4))
   go_meet
   case rel =>
    rw [d6.out]; exact ⟨by repeat (first | (with_reducible first | exact HP.out | apply number_parts.St.drewN | apply number_parts.St.drew | apply number_parts.St.setA0 | apply number_parts.St.setA | apply number_parts.St.setT) | exact (rfl : (_ : Array Value) = _))⟩
  have HPP := am_ d5.symm; have HP2 := am_ (HP1.out d1); have HB3 := am_ (HB1.out d1); have d7 : bp = false := hbp.symm.trans d4; have d8 : bd = true := by rw [HBD.out]; unfold number_parts.isDot; rw [dt_ d1, d2]; rfl
  replace d6 := am_ d6; clear d1 d2 d3 d4 d5 HP1 HB1; have HP1 := HP2; have HB1 := HB3; subst d7; subst d8; go_wp2_with (first | (go_at_call 126; refine (number_parts.digits_st (w := w) (gt := gt) (c := #[.bool ng, .string sw, .string (⟨#[]⟩ : ByteArray), .string (⟨#[]⟩ : ByteArray), .int .i64 0]) (i := b1) ?st p1 p HN.out HB1.out HP1.out HPP.out).mono ?_; (case st => repeat (first | (with_reducible first | exact HP.out | apply number_parts.St.drewN | apply number_parts.St.drew | apply number_parts.St.setA0 | apply number_parts.St.setA | apply number_parts.St.setT) | exact (rfl : (_ : Array Value) = _))); rintro e w6 ⟨rfl, hp⟩; replace HP := am_ hp; clear hp; have hcs : w6.cell? ⟨gs, 0, none⟩ = some (.string s) := (blk_cell HP.out.two.hs 0).trans rfl; have hca : w6.cell? ⟨ga, 0, none⟩ = some (.int .i64 p1) := (blk_cell HP.out.two.ha 0).trans rfl; have hfa := blk_frozen HP.out.two.ha 0; have ht0 : w6.cell? ⟨gt, 0, none⟩ = some (.bool ng) := (blk_cell HP.out.ht 0).trans rfl; have hf0 := blk_frozen HP.out.ht 0; have ht1 : w6.cell? ⟨gt, 1, none⟩ = some (.string sw) := (blk_cell HP.out.ht 1).trans rfl; have hf1 := blk_frozen HP.out.ht 1; have ht2 : w6.cell? ⟨gt, 2, none⟩ = some (.string (⟨#[]⟩ : ByteArray)) := (blk_cell HP.out.ht 2).trans rfl; have hf2 := blk_frozen HP.out.ht 2; have ht3 : w6.cell? ⟨gt, 3, none⟩ = some (.string (⟨#[]⟩ : ByteArray)) := (blk_cell HP.out.ht 3).trans rfl; have hf3 := blk_frozen HP.out.ht 3; have ht4 : w6.cell? ⟨gt, 4, none⟩ = some (.int .i64 0) := (blk_cell HP.out.ht 4).trans rfl; have hf4 := blk_frozen HP.out.ht 4))
  go_meet
  case rel =>
   rw [d6.out]; exact ⟨by repeat (first | (with_reducible first | exact HP.out | apply number_parts.St.drewN | apply number_parts.St.drew | apply number_parts.St.setA0 | apply number_parts.St.setA | apply number_parts.St.setT) | exact (rfl : (_ : Array Value) = _))⟩
 have HP := hcut; clear hcut; have hcs : wc.cell? ⟨gs, 0, none⟩ = some (.string s) := (blk_cell HP.out.two.hs 0).trans rfl; have hca : wc.cell? ⟨ga, 0, none⟩ = some (.int .i64 a2) := (blk_cell HP.out.two.ha 0).trans rfl; have hfa := blk_frozen HP.out.two.ha 0; have ht0 : wc.cell? ⟨gt, 0, none⟩ = some (.bool ng) := (blk_cell HP.out.ht 0).trans rfl; have hf0 := blk_frozen HP.out.ht 0; have ht1 : wc.cell? ⟨gt, 1, none⟩ = some (.string sw) := (blk_cell HP.out.ht 1).trans rfl; have hf1 := blk_frozen HP.out.ht 1; have ht2 : wc.cell? ⟨gt, 2, none⟩ = some (.string p) := (blk_cell HP.out.ht 2).trans rfl; have hf2 := blk_frozen HP.out.ht 2; have ht3 : wc.cell? ⟨gt, 3, none⟩ = some (.string (⟨#[]⟩ : ByteArray)) := (blk_cell HP.out.ht 3).trans rfl; have hf3 := blk_frozen HP.out.ht 3; have ht4 : wc.cell? ⟨gt, 4, none⟩ = some (.int .i64 0) := (blk_cell HP.out.ht 4).trans rfl; have hf4 := blk_frozen HP.out.ht 4; go_upto_region 11 with (fail)
 go_cut [42] (fun v42 wc => v42 = .bool true ∧ Aside0 (number_parts.St w wc gs gt ga s #[.bool ng, .string sw, .string p, .string (⟨#[]⟩ : ByteArray), .int .i64 0] a2))
 case first =>
  obtain ⟨z1, z2⟩ := Bool.and_eq_true_iff.1 hZ; subst z1; subst z2; go_wp2; go_meet
  case rel => exact ⟨rfl, ⟨by repeat (first | (with_reducible first | exact HP.out | apply number_parts.St.drewN | apply number_parts.St.drew | apply number_parts.St.setA0 | apply number_parts.St.setA | apply number_parts.St.setT) | exact (rfl : (_ : Array Value) = _))⟩⟩
 obtain ⟨rfl, HP⟩ := hcut; have hcs : wc.cell? ⟨gs, 0, none⟩ = some (.string s) := (blk_cell HP.out.two.hs 0).trans rfl; have hca : wc.cell? ⟨ga, 0, none⟩ = some (.int .i64 a2) := (blk_cell HP.out.two.ha 0).trans rfl; have hfa := blk_frozen HP.out.two.ha 0; have ht0 : wc.cell? ⟨gt, 0, none⟩ = some (.bool ng) := (blk_cell HP.out.ht 0).trans rfl; have hf0 := blk_frozen HP.out.ht 0; have ht1 : wc.cell? ⟨gt, 1, none⟩ = some (.string sw) := (blk_cell HP.out.ht 1).trans rfl; have hf1 := blk_frozen HP.out.ht 1; have ht2 : wc.cell? ⟨gt, 2, none⟩ = some (.string p) := (blk_cell HP.out.ht 2).trans rfl; have hf2 := blk_frozen HP.out.ht 2; have ht3 : wc.cell? ⟨gt, 3, none⟩ = some (.string (⟨#[]⟩ : ByteArray)) := (blk_cell HP.out.ht 3).trans rfl; have hf3 := blk_frozen HP.out.ht 3; have ht4 : wc.cell? ⟨gt, 4, none⟩ = some (.int .i64 0) := (blk_cell HP.out.ht 4).trans rfl; have hf4 := blk_frozen HP.out.ht 4; go_wp2; refine bodyPost_ret (results_cell_row rfl _ _ gt 133 #[.bool false, .string (⟨#[]⟩ : ByteArray), .string (⟨#[]⟩ : ByteArray), .string (⟨#[]⟩ : ByteArray), .int .i64 0] (0, 0) _ rfl (show _ from (by repeat (first | (with_reducible first | exact HP.out | apply number_parts.St.drewN | apply number_parts.St.drew | apply number_parts.St.setA0 | apply number_parts.St.setA | apply number_parts.St.setT) | exact (rfl : (_ : Array Value) = _)) : number_parts.St w _ gs gt ga s #[.bool false, .string (⟨#[]⟩ : ByteArray), .string (⟨#[]⟩ : ByteArray), .string (⟨#[]⟩ : ByteArray), .int .i64 0] _).ht) Tryd.underlying133 rfl (by kernel_rfl)) rfl ?_
 exact ⟨rfl, (by repeat (first | (with_reducible first | exact HP.out | apply number_parts.St.drewN | apply number_parts.St.drew | apply number_parts.St.setA0 | apply number_parts.St.setA | apply number_parts.St.setT) | exact (rfl : (_ : Array Value) = _)) : number_parts.St w _ gs gt ga s #[.bool false, .string (⟨#[]⟩ : ByteArray), .string (⟨#[]⟩ : ByteArray), .string (⟨#[]⟩ : ByteArray), .int .i64 0] _).b⟩

theorem number_parts.calls (a0 : ByteArray) (r1 : Bool) (r2 r3 r4 : ByteArray) (r5 : Int) (w : World) (h : number_parts.f a0 = some (r1, r2, r3, r4, r5)) :
  Calls Tryd.prog 106 #[.string a0] w fun e w' => e = .returned (.agg #[.bool r1, .string r2, .string r3, .string r4, .int .i64 r5]) ∧ Below w.heap.size w w' := by
 unfold number_parts.f at h; by_cases hs : a0.size ≤ 140737488351232
 ·rw [if_pos hs] at h; have b0 := number_parts.sgn_bd a0 0 (Nat.zero_le _); have b1 := number_parts.stop_bd a0 (number_parts.w0 a0) b0.2.1; have hsw := number_parts.cut_empty (s := a0) b1.1 b1.2; have hway := number_parts.dot_way a0 b1.2; have bp : number_parts.w1 a0 < a0.size → number_parts.w1 a0 + 1 ≤ number_parts.stop a0 (number_parts.w1 a0 + 1) ∧ number_parts.stop a0 (number_parts.w1 a0 + 1) ≤ a0.size := fun hl => number_parts.stop_bd a0 _ hl
  have hp : ((number_parts.part a0).toList == ([] : List UInt8)) = decide (number_parts.at2 a0 = number_parts.w1 a0) ∧ number_parts.at2 a0 ≤ a0.size := by
   have e0 : ((⟨#[]⟩ : ByteArray).toList == ([] : List UInt8)) = true := by rw [ByteArray.toList_eq]; rfl
   rcases hway with ⟨d1, d2, d3⟩ | ⟨d1, d2, d3, d4⟩ | ⟨d1, d2, d3, d4, d5, d6⟩ | ⟨d1, d2, d3, d4, d5, d6⟩
   ·rw [d2, d3, e0, dt_ rfl]; exact ⟨rfl, b1.2⟩
   ·rw [d3, d4, e0, dt_ rfl]; exact ⟨rfl, b1.2⟩
   ·rw [d4, d6, dt_ rfl]; exact ⟨rfl, b1.2⟩
   rw [d4, d6, df_ (by omega)]; exact ⟨rfl, (bp d1).2⟩
  have hsw' : ((a0.extract (number_parts.w0 a0) (number_parts.w1 a0)).toList == ([] : List UInt8)) = decide (number_parts.w0 a0 = number_parts.w1 a0) := hsw; by_cases hz : number_parts.w1 a0 = number_parts.w0 a0 ∧ number_parts.at2 a0 = number_parts.w1 a0
  ·rw [if_pos hz] at h; simp only [Option.some.injEq, Prod.mk.injEq] at h; obtain ⟨rfl, rfl, rfl, rfl, rfl⟩ := h; exact number_parts.walk0 a0 (a0.extract (number_parts.w0 a0) (number_parts.w1 a0)) (number_parts.part a0) _ ⟨#[]⟩ _ (number_parts.neg a0 (number_parts.at2 a0 + 1)) _ _ _ _ _ _ (number_parts.sgn a0 (number_parts.at2 a0 + 1)) _ 0 w hs rfl rfl b0.2.1 rfl b1.2 rfl rfl hway (fun _ => rfl) hp.2 rfl
    (by rw [hsw', hp.1, dt_ hz.1.symm, dt_ hz.2]; rfl) (fun _ => rfl) rfl (fun hl => (number_parts.sgn_bd a0 _ hl).2.1) (fun _ => rfl) rfl (fun hl => by have := number_parts.sgn_bd a0 (number_parts.at2 a0 + 1) hl; have := number_parts.stop_bd a0 _ this.2.1; omega)
  rw [if_neg hz] at h; simp only [Option.some.injEq, Prod.mk.injEq] at h; obtain ⟨rfl, rfl, rfl, rfl, rfl⟩ := h; have hE := number_parts.exp_way a0 hp.2; have k := number_parts.walk a0 (a0.extract (number_parts.w0 a0) (number_parts.w1 a0)) (number_parts.part a0) _ (if number_parts.hasE a0 = true then a0.extract (number_parts.at2 a0 + 1) (number_parts.x1 a0) else ⟨#[]⟩) _ (number_parts.neg a0 (number_parts.at2 a0 + 1)) _ _ _ _ _ _ _ _ (if number_parts.hasE a0 = true then number_parts.x1 a0 else number_parts.at2 a0) w hs rfl rfl b0.2.1 rfl b1.2 rfl rfl hway (fun _ => rfl) hp.2 rfl
   (by rw [hsw', hp.1]; exact Bool.and_eq_false_iff.2 ((Decidable.em (number_parts.w0 a0 = number_parts.w1 a0)).elim (fun h1 => .inr (df_ (fun h2 => hz ⟨h1.symm, h2⟩))) (fun h1 => .inl (df_ h1)))) hE (fun _ => rfl) rfl (fun hl => (number_parts.sgn_bd a0 _ hl).2.1) (fun _ => rfl) rfl (fun hl => by have := number_parts.sgn_bd a0 (number_parts.at2 a0 + 1) hl; have := number_parts.stop_bd a0 _ this.2.1; exact ⟨by unfold number_parts.x1 number_parts.x0; omega, this.2⟩)
  refine k.mono fun e w' hk => ⟨?_, hk.2⟩
  rw [hk.1]; cases number_parts.hasE a0 <;> rfl
 rw [if_neg hs] at h; cases h


/-! ### number_Scan: function 89 -/
def number_Scan.f (a0 : ByteArray) : Option (Int) := (number_parts.f a0).bind fun bt112 => (some bt112.2.2.2.2)
set_option maxHeartbeats 8000000 in
theorem number_Scan.calls (a0 : ByteArray) (r : Int) (w : World) (h : number_Scan.f a0 = some r) :
  Calls Tryd.prog 89 #[.string a0] w fun e w' => e = .returned (.int .i64 r) ∧ Below w.heap.size w w' := by
 have hu133 := Tryd.underlying133; have hfl133_4 : ∀ (c0 c1 c2 c3 c4 : Value) (W : World), (Instr.field 133 (.agg #[c0, c1, c2, c3, c4]) 4).run Tryd.prog W = .ok (c4) W := fun c0 c1 c2 c3 c4 W => by first | rfl | kernel_rfl
 have HB := am_ (Below.refl w.heap.size w); have H : ((number_parts.f a0).bind fun bt112 => (some bt112.2.2.2.2)) = some r := h; clear h; replace H := bs_ H; obtain ⟨⟨t112, t113, t114, t115, t116⟩, A20, H⟩ := H; try dsimp only at H
 have A2 := am_ A20; clear A20; obtain rfl := si_ H; go_enter Tryd.func89, Tryd.ntmps89
 go_wp2_with (first | ((with_reducible refine gate_callee (f := 106) rfl ?_); refine goesL_ (some 4) rfl rfl Tryd.func106 (by kernel_rfl) rfl #[.string a0] rfl goa_ ?_; (with_reducible refine (number_parts.calls a0 t112 t113 t114 t115 t116 _ A2.out).mono ?_); rintro e w3 ⟨rfl, hb⟩; refine ⟨_, rfl, ?_⟩; replace HB := am_ (below_step bel_ hb); clear hb))
 go_ret
 exact ⟨rsl_, bel_⟩

/-! ### token_lexer_word_1: function 91 -/
def token_lexer_word_1.f (a0 : Int) : Option (Bool) := some (a0 == 37)
set_option maxHeartbeats 8000000 in
theorem token_lexer_word_1.calls (a0 : Int) (r : Bool) (w : World) (h : token_lexer_word_1.f a0 = some r) :
  Calls Tryd.prog 91 #[.int .u8 a0] w fun e w' => e = .returned (.bool r) ∧ Drawn0 w w' := by
 have H : (some (a0 == 37)) = some r := h; clear h; obtain rfl := si_ H; go_enter Tryd.func91, Tryd.ntmps91
 go_wp2; go_ret
 exact ⟨by first | rfl | (simp; done) | (simp [*]; done), drs_⟩

/-! ### token_lexer_word_2: function 94 -/
def token_lexer_word_2.f (a0 : Int) : Option (Bool) := some (a0 == 40)
set_option maxHeartbeats 8000000 in
theorem token_lexer_word_2.calls (a0 : Int) (r : Bool) (w : World) (h : token_lexer_word_2.f a0 = some r) :
  Calls Tryd.prog 94 #[.int .u8 a0] w fun e w' => e = .returned (.bool r) ∧ Drawn0 w w' := by
 have H : (some (a0 == 40)) = some r := h; clear h; obtain rfl := si_ H; go_enter Tryd.func94, Tryd.ntmps94
 go_wp2; go_ret
 exact ⟨by first | rfl | (simp; done) | (simp [*]; done), drs_⟩

/-! ### token_lexer_begins_1: function 107 -/
def token_lexer_begins_1.f (a0 : Int) : Option (Bool) := some (a0 == 45)
set_option maxHeartbeats 8000000 in
theorem token_lexer_begins_1.calls (a0 : Int) (r : Bool) (w : World) (h : token_lexer_begins_1.f a0 = some r) :
  Calls Tryd.prog 107 #[.int .u8 a0] w fun e w' => e = .returned (.bool r) ∧ Drawn0 w w' := by
 have H : (some (a0 == 45)) = some r := h; clear h; obtain rfl := si_ H; go_enter Tryd.func107, Tryd.ntmps107
 go_wp2; go_ret
 exact ⟨by first | rfl | (simp; done) | (simp [*]; done), drs_⟩

/-! ### token_digit: function 110 -/
def token_digit.f (a0 : Int) : Option (Bool) := if a0 ≥ 48 then (some (decide (a0 ≤ 57))) else (some false)
set_option maxHeartbeats 8000000 in
theorem token_digit.calls (a0 : Int) (r : Bool) (w : World) (h : token_digit.f a0 = some r) :
  Calls Tryd.prog 110 #[.int .u8 a0] w fun e w' => e = .returned (.bool r) ∧ Drawn0 w w' := by
 have H : (if a0 ≥ 48 then (some (decide (a0 ≤ 57))) else (some false)) = some r := h; clear h; by_cases c2 : a0 ≥ 48
 ·rw [if_pos c2] at H; have c2b0 : decide (48 ≤ a0) = true := dt_ c2; clear c2; obtain rfl := si_ H; go_enter Tryd.func110, Tryd.ntmps110
  go_wp2; go_ret
  exact ⟨by first | rfl | (simp; done) | (simp [*]; done), drs_⟩
 rw [if_neg c2] at H; have c2b0 : decide (48 ≤ a0) = false := df_ c2; clear c2; obtain rfl := si_ H; go_enter Tryd.func110, Tryd.ntmps110
 go_wp2; go_ret
 exact ⟨by first | rfl | (simp; done) | (simp [*]; done), drs_⟩

/-! ### token_lexer_ident_1: function 109 -/
def token_lexer_ident_1.f (a0 : Int) : Option (Bool) := (token_Letter.f a0).bind fun t117 => (if t117 = true then (some true) else ((token_digit.f a0).bind fun t118 => (if t118 = true then (some true) else (some (a0 == 45)))))
set_option maxHeartbeats 8000000 in
theorem token_lexer_ident_1.calls (a0 : Int) (r : Bool) (w : World) (h : token_lexer_ident_1.f a0 = some r) :
  Calls Tryd.prog 109 #[.int .u8 a0] w fun e w' => e = .returned (.bool r) ∧ Drawn0 w w' := by
 have H : ((token_Letter.f a0).bind fun t117 => (if t117 = true then (some true) else ((token_digit.f a0).bind fun t118 => (if t118 = true then (some true) else (some (a0 == 45)))))) = some r := h; clear h; replace H := bs_ H; obtain ⟨t117, A20, H⟩ := H; try dsimp only at H
 have A2 := am_ A20; clear A20; by_cases c3 : t117 = true
 ·subst c3; rw [if_pos rfl] at H; obtain rfl := si_ H; go_enter Tryd.func109, Tryd.ntmps109
  go_wp2_with (first | ((with_reducible refine gate_callee (f := 54) rfl ?_); refine goesL_ (some 4) rfl rfl Tryd.func54 (by kernel_rfl) rfl #[.int .u8 a0] rfl goa_ ?_; (with_reducible refine (token_Letter.calls a0 true _ A2.out).mono ?_); rintro e w' ⟨rfl, ⟨nd, rfl⟩⟩; refine ⟨_, rfl, ?_⟩))
  go_ret
  exact ⟨by first | rfl | (simp; done) | (simp [*]; done), drs_⟩
 replace c3 := Bool.eq_false_iff.mpr c3; subst c3; rw [if_neg (show ¬ (false = true) by decide)] at H; replace H := bs_ H; obtain ⟨t118, A40, H⟩ := H; try dsimp only at H
 have A4 := am_ A40; clear A40; by_cases c5 : t118 = true
 ·subst c5; rw [if_pos rfl] at H; obtain rfl := si_ H; go_enter Tryd.func109, Tryd.ntmps109
  go_wp2_with (first | ((with_reducible refine gate_callee (f := 54) rfl ?_); refine goesL_ (some 4) rfl rfl Tryd.func54 (by kernel_rfl) rfl #[.int .u8 a0] rfl goa_ ?_; (with_reducible refine (token_Letter.calls a0 false _ A2.out).mono ?_); rintro e w' ⟨rfl, ⟨nd, rfl⟩⟩; refine ⟨_, rfl, ?_⟩) | (go_at_call 110; (with_reducible refine (token_digit.calls a0 true _ A4.out).mono ?_); rintro e w' ⟨rfl, ⟨nd, rfl⟩⟩))
  go_ret
  exact ⟨by first | rfl | (simp; done) | (simp [*]; done), drs_⟩
 replace c5 := Bool.eq_false_iff.mpr c5; subst c5; rw [if_neg (show ¬ (false = true) by decide)] at H; obtain rfl := si_ H; go_enter Tryd.func109, Tryd.ntmps109
 go_wp2_with (first | ((with_reducible refine gate_callee (f := 54) rfl ?_); refine goesL_ (some 4) rfl rfl Tryd.func54 (by kernel_rfl) rfl #[.int .u8 a0] rfl goa_ ?_; (with_reducible refine (token_Letter.calls a0 false _ A2.out).mono ?_); rintro e w' ⟨rfl, ⟨nd, rfl⟩⟩; refine ⟨_, rfl, ?_⟩) | (go_at_call 110; (with_reducible refine (token_digit.calls a0 false _ A4.out).mono ?_); rintro e w' ⟨rfl, ⟨nd, rfl⟩⟩))
 go_ret
 exact ⟨by first | rfl | (simp; done) | (simp [*]; done), drs_⟩

/-! ### token_hex: function 128 -/
def token_hex.j0 : Nat → Int → Bool → Option (Int)
 | 0, _, _ => none
 | k + 1, x0, x9 => if x9 = true then (some (((x0 - 97) % 256) + 10)) else (if x0 ≥ 65 then (if x0 ≤ 70 then (some (((x0 - 65) % 256) + 10)) else (some (-1))) else (some (-1)))
def token_hex.f (k : Nat) (a0 : Int) : Option (Int) := (token_digit.f a0).bind fun t119 => (if t119 = true then (some ((a0 - 48) % 256)) else (if a0 ≥ 97 then (token_hex.j0 k a0 (decide (a0 ≤ 102))) else (token_hex.j0 k a0 false)))
theorem token_hex.mono_l : ∀ k, (∀ y0 y1, LeO (token_hex.j0 k y0 y1) (token_hex.j0 (k + 1) y0 y1))
 | 0 => fun _ _ r h => by simp [token_hex.j0] at h
 | k + 1 => by
  have ih0 := token_hex.mono_l k; intro y0 y1; unfold token_hex.j0; repeat' first
  | (with_reducible exact ih0 _ _)
  | (with_reducible first | exact LeO.refl _ | exact LeO.none _ | refine LeO.ite ?_ ?_ | refine LeO.bind ?_ (fun _ => ?_))
theorem token_hex.mono : ∀ a0 k, LeO (token_hex.f k a0) (token_hex.f (k + 1) a0) := by
 intro a0 k; have ih0 := token_hex.mono_l k; unfold token_hex.f; repeat' first
   | (with_reducible exact ih0 _ _)
   | (with_reducible first | exact LeO.refl _ | exact LeO.none _ | refine LeO.ite ?_ ?_ | refine LeO.bind ?_ (fun _ => ?_))
set_option maxHeartbeats 8000000 in
theorem token_hex.calls (k : Nat) (a0 : Int) (r : Int) (w : World) (h : token_hex.f k a0 = some r) :
  Calls Tryd.prog 128 #[.int .u8 a0] w fun e w' => e = .returned (.int .i64 r) ∧ Drawn0 w w' := by
 have H : ((token_digit.f a0).bind fun t119 => (if t119 = true then (some ((a0 - 48) % 256)) else (if a0 ≥ 97 then (token_hex.j0 k a0 (decide (a0 ≤ 102))) else (token_hex.j0 k a0 false)))) = some r := h; clear h; replace H := bs_ H; obtain ⟨t119, A20, H⟩ := H; try dsimp only at H
 have A2 := am_ A20; clear A20; by_cases c3 : t119 = true
 ·subst c3; rw [if_pos rfl] at H; obtain rfl := si_ H; go_enter Tryd.func128, Tryd.ntmps128
  go_wp2_with (first | ((with_reducible refine gate_callee (f := 110) rfl ?_); refine goesL_ (some 5) rfl rfl Tryd.func110 (by kernel_rfl) rfl #[.int .u8 a0] rfl goa_ ?_; (with_reducible refine (token_digit.calls a0 true _ A2.out).mono ?_); rintro e w' ⟨rfl, ⟨nd, rfl⟩⟩; refine ⟨_, rfl, ?_⟩))
  go_ret
  exact ⟨by first | rfl | (simp; done) | (simp [*]; done), drs_⟩
 replace c3 := Bool.eq_false_iff.mpr c3; subst c3; rw [if_neg (show ¬ (false = true) by decide)] at H; have HC4 := am_ H; clear H; go_enter Tryd.func128, Tryd.ntmps128
 go_upto_region 3 with (first | ((with_reducible refine gate_callee (f := 110) rfl ?_); refine goesL_ (some 5) rfl rfl Tryd.func110 (by kernel_rfl) rfl #[.int .u8 a0] rfl goa_ ?_; (with_reducible refine (token_digit.calls a0 false _ A2.out).mono ?_); rintro e w' ⟨rfl, ⟨nd, rfl⟩⟩; refine ⟨_, rfl, ?_⟩))
 (try simp only [Act.put, List.setIfInBounds_toArray, List.set_cons_zero, List.set_cons_succ])
 go_cut [9] (fun v9 wc => ∃ (kq : Nat) (x9_3 : Bool), v9 = .bool x9_3 ∧ Aside0 (token_hex.j0 kq a0 x9_3 = some r) ∧ Aside0 (kq ≤ k) ∧ Drawn0 w wc)
 case first =>
  have H := HC4.out; clear HC4; by_cases c5 : a0 ≥ 97
  ·rw [if_pos c5] at H; have c5b0 : decide (97 ≤ a0) = true := dt_ c5; clear c5; (first | rw [c5b0] | (simp only [i64_w, i32_w]; rw [c5b0]) | skip)
   have H' := am_ H; clear H; go_wp2; go_meet
   case rel => exact ⟨_, (decide (a0 ≤ 102)), rfs_, (by first | exact H' | (subst_vars; exact H')), ⟨ole_⟩, drs_⟩
  rw [if_neg c5] at H; have c5b0 : decide (97 ≤ a0) = false := df_ c5; clear c5; (first | rw [c5b0] | (simp only [i64_w, i32_w]; rw [c5b0]) | skip)
  have H' := am_ H; clear H; go_wp2; go_meet
  case rel => exact ⟨_, (false), rfs_, (by first | exact H' | (subst_vars; exact H')), ⟨ole_⟩, drs_⟩
 clear HC4; try clear c3
 obtain ⟨kq, x9_3, rfl, HA, HJ3, ⟨mc3, rfl⟩⟩ := hcut
 cases kq with
 | zero => exact absurd HA.out (by simp [token_hex.j0])
 | succ kj3 =>
  have H := HA.out; clear HA; simp only [token_hex.j0] at H; by_cases c6 : x9_3 = true
  ·subst c6; rw [if_pos rfl] at H; obtain rfl := si_ H; go_wp2; go_ret
   exact ⟨by first | rfl | (simp; done) | (simp [*]; done), drs_⟩
  replace c6 := Bool.eq_false_iff.mpr c6; subst c6; rw [if_neg (show ¬ (false = true) by decide)] at H; by_cases c7 : a0 ≥ 65
  ·rw [if_pos c7] at H; have c7b0 : decide (65 ≤ a0) = true := dt_ c7; clear c7; by_cases c8 : a0 ≤ 70
   ·rw [if_pos c8] at H; have c8b0 : decide (a0 ≤ 70) = true := dt_ c8; clear c8; obtain rfl := si_ H; go_wp2; go_ret
    exact ⟨by first | rfl | (simp; done) | (simp [*]; done), drs_⟩
   rw [if_neg c8] at H; have c8b0 : decide (a0 ≤ 70) = false := df_ c8; clear c8; obtain rfl := si_ H; go_wp2; go_ret
   exact ⟨by first | rfl | (simp; done) | (simp [*]; done), drs_⟩
  rw [if_neg c7] at H; have c7b0 : decide (65 ≤ a0) = false := df_ c7; clear c7; obtain rfl := si_ H; go_wp2; go_ret
  exact ⟨by first | rfl | (simp; done) | (simp [*]; done), drs_⟩


/-! ### utf8_appendRuneNonASCII: function 139 -/
def utf8_appendRuneNonASCII.j0 : Nat → List Int → Int → Int → Bool → Option (List Int)
 | 0, _, _, _, _ => none
 | k + 1, x0, x1, x5, x25 => if x25 = true then ((some (([Go.bits .or .u8 224 ((x1 / 4096) % 256), (128 + (x1 / 64) % 64), (128 + (x1) % 64)] : List Int) : List Int)).bind fun y126 => (if x0.length + y126.length < 140737488355328 then (some (x0 ++ y126)) else (none))) else (if x5 > 65535 then (if x5 ≤ 1114111 then ((some (([Go.bits .or .u8 240 ((x1 / 262144) % 256), (128 + (x1 / 4096) % 64), (128 + (x1 / 64) % 64), (128 + (x1) % 64)] : List Int) : List Int)).bind fun y132 => (if x0.length + y132.length < 140737488355328 then (some (x0 ++ y132)) else (none))) else ((some (([239, 191, 189] : List Int) : List Int)).bind fun y138 => (if x0.length + y138.length < 140737488355328 then (some (x0 ++ y138)) else (none)))) else ((some (([239, 191, 189] : List Int) : List Int)).bind fun y144 => (if x0.length + y144.length < 140737488355328 then (some (x0 ++ y144)) else (none))))
def utf8_appendRuneNonASCII.f (k : Nat) (l0 : List Int) (a1 : Int) : Option (List Int) := if ((a1) % 4294967296) ≤ 2047 then ((some (([Go.bits .or .u8 192 ((a1 / 64) % 256), (128 + (a1) % 64)] : List Int) : List Int)).bind fun y120 => (if l0.length + y120.length < 140737488355328 then (some (l0 ++ y120)) else (none))) else (if ((a1) % 4294967296) < 55296 then (utf8_appendRuneNonASCII.j0 k l0 a1 ((a1) % 4294967296) (decide (((a1) % 4294967296) < 55296))) else (if 57343 < ((a1) % 4294967296) then (utf8_appendRuneNonASCII.j0 k l0 a1 ((a1) % 4294967296) (decide (((a1) % 4294967296) ≤ 65535))) else (utf8_appendRuneNonASCII.j0 k l0 a1 ((a1) % 4294967296) false)))
theorem utf8_appendRuneNonASCII.mono_l : ∀ k, (∀ y0 y1 y2 y3, LeO (utf8_appendRuneNonASCII.j0 k y0 y1 y2 y3) (utf8_appendRuneNonASCII.j0 (k + 1) y0 y1 y2 y3))
 | 0 => fun _ _ _ _ r h => by simp [utf8_appendRuneNonASCII.j0] at h
 | k + 1 => by
  have ih0 := utf8_appendRuneNonASCII.mono_l k; intro y0 y1 y2 y3; unfold utf8_appendRuneNonASCII.j0; repeat' first
  | (with_reducible exact ih0 _ _ _ _)
  | (with_reducible first | exact LeO.refl _ | exact LeO.none _ | refine LeO.ite ?_ ?_ | refine LeO.bind ?_ (fun _ => ?_))
theorem utf8_appendRuneNonASCII.mono : ∀ a0 a1 k, LeO (utf8_appendRuneNonASCII.f k a0 a1) (utf8_appendRuneNonASCII.f (k + 1) a0 a1) := by
 intro a0 a1 k; have ih0 := utf8_appendRuneNonASCII.mono_l k; unfold utf8_appendRuneNonASCII.f; repeat' first
   | (with_reducible exact ih0 _ _ _ _)
   | (with_reducible first | exact LeO.refl _ | exact LeO.none _ | refine LeO.ite ?_ ?_ | refine LeO.bind ?_ (fun _ => ?_))
set_option maxHeartbeats 8000000 in
theorem utf8_appendRuneNonASCII.calls (k : Nat) (P0_ : Nat → Prop) (u9000_ : Value) (l0 : List Int) (a1 : Int) (r : List Int) (w0 w : World) (hB : Below w0.heap.size w0 w) (ho0 : Kd.R (Kd.int .u8) 5 w w0.heap.size P0_ u9000_ l0) (h : utf8_appendRuneNonASCII.f k l0 a1 = some r) :
  Calls Tryd.prog 139 #[u9000_, .int .i32 a1] w fun e w' => ∃ v0_ : Value, e = .returned (v0_) ∧ Kd.R (Kd.int .u8) 5 w' w0.heap.size (fun k_ => (P0_ k_ ∨ w.heap.size ≤ k_)) v0_ r ∧ Below w0.heap.size w0 w' ∧ Kept w w' (fun k_ => P0_ k_) := by
 have HO0 := am_ (show Kd.R (Kd.int .u8) 5 w w0.heap.size (fun k_ => (P0_ k_ ∨ w.heap.size ≤ k_)) u9000_ l0 from Kd.R_mono ho0 (fun k_ hk => (.inl hk))); have HK := am_ (Kept.refl w (fun k_ => P0_ k_)); have HW0 := am_ hB.size; have HB := am_ hB; clear hB; have H : (if ((a1) % 4294967296) ≤ 2047 then ((some (([Go.bits .or .u8 192 ((a1 / 64) % 256), (128 + (a1) % 64)] : List Int) : List Int)).bind fun y120 => (if l0.length + y120.length < 140737488355328 then (some (l0 ++ y120)) else (none))) else (if ((a1) % 4294967296) < 55296 then (utf8_appendRuneNonASCII.j0 k l0 a1 ((a1) % 4294967296) (decide (((a1) % 4294967296) < 55296))) else (if 57343 < ((a1) % 4294967296) then (utf8_appendRuneNonASCII.j0 k l0 a1 ((a1) % 4294967296) (decide (((a1) % 4294967296) ≤ 65535))) else (utf8_appendRuneNonASCII.j0 k l0 a1 ((a1) % 4294967296) false)))) = some r := h; clear h; by_cases c3 : ((a1) % 4294967296) ≤ 2047
 ·rw [if_pos c3] at H; have c3b0 : decide (((a1) % 4294967296) ≤ 2047) = true := dt_ c3; clear c3; obtain ⟨y120, hy120⟩ : ∃ y_ : List Int, y_ = (([Go.bits .or .u8 192 ((a1 / 64) % 256), (128 + (a1) % 64)] : List Int)) := ⟨_, rfl⟩
  replace H : (if l0.length + y120.length < 140737488355328 then (some (l0 ++ y120)) else (none)) = some r := by first | (rw [hy120]; with_reducible exact H) | (have H2_ := (Option.bind_some _ _).symm.trans H; rw [hy120]; with_reducible exact H2_) | (have H2_ := (Option.bind_some _ _).symm.trans H; with_reducible exact H2_) | with_reducible exact H | (rw [hy120]; exact H) | exact H
  have Ny120 := am_ hy120; clear hy120; by_cases c4 : l0.length + y120.length < 140737488355328
  ·rw [if_pos c4] at H; have LMc4 := am_ c4; clear c4; obtain ⟨y123, hy123⟩ : ∃ y_ : List Int, y_ = (l0 ++ y120) := ⟨_, rfl⟩
   replace H : (some y123) = some r := by first | (rw [hy123]; with_reducible exact H) | (have H2_ := (Option.bind_some _ _).symm.trans H; rw [hy123]; with_reducible exact H2_) | (have H2_ := (Option.bind_some _ _).symm.trans H; with_reducible exact H2_) | with_reducible exact H | (rw [hy123]; exact H) | exact H
   have Ny123 := am_ hy123; clear hy123; obtain rfl := si_ H; go_enter Tryd.func139, Tryd.ntmps139
   go_wp2_with (first | ((with_reducible refine gate_dst (N := 23) rfl ?_); refine Kd.R_lit (Kd.int .u8) _ 5 ?hg (N := 23) ?hd (xs := ([Go.bits .or .u8 192 ((a1 / 64) % 256), (128 + (a1) % 64)] : List Int)) (inner := [.int .u8 (Go.bits .or .u8 192 ((a1 / 64) % 256)), .int .u8 ((128 + (a1) % 64))]) (ok := fun _ => True) (okp := fun _ => True) ?hr ?hp (fun _ hk => hk) trivial (Below.refl _ _) (Nat.le_refl _) (by simp) ?_; (case hd => rfl); (case hg => rfl); (case hr => first | (go_simp; done) | (go_simp; rfl)); (case hp => exact (Reps.one (show Kd.M (Kd.int .u8) _ _ _ (Go.bits .or .u8 192 ((a1 / 64) % 256)) [.int .u8 (Go.bits .or .u8 192 ((a1 / 64) % 256))] from rfl) (Reps.one (show Kd.M (Kd.int .u8) _ _ _ ((128 + (a1) % 64)) [.int .u8 ((128 + (a1) % 64))] from rfl) (Reps.none _ _)))); intro v121 w5 ho6 hb hg_ hnew_; clear hg_ hnew_; (first | rw [← Ny120.out] at ho6 | (simp only [Int.reduceToNat] at ho6; rw [← Ny120.out] at ho6)); have HO122 := am_ (Kd.R_lower (Kd.R_new' (Kd.R_newM (M := fun k_ => (P0_ k_ ∨ w.heap.size ≤ k_)) ho6 (by first | exact HK.out.1 | exact (show Kept w _ (fun k_ => P0_ k_) from by repeat (first | (with_reducible first | exact HK.out | apply Kept.alloc | apply Kept.drewN | apply Kept.drew) | exact HK.out)).1) (fun k_ h_ => .inr h_)) (Kd.R_lt (row_ HO0))) (below_size bel_)); replace HO0 := am_ (Kd.R_elder' (row_ HO0) (Kd.R_base ho6) hb); replace HK := am_ (Kept.below (S := (fun k_ => P0_ k_)) (by repeat (first | (with_reducible first | exact HK.out | apply Kept.alloc | apply Kept.drewN | apply Kept.drew) | exact HK.out)) hb); replace HB := am_ (below_step bel_ hb); clear hb ho6; obtain ⟨Ao8, co8, eo8⟩ := Kd.R_slice HO122.out; subst eo8) | ((with_reducible refine gate_builtin (b := .append) (xs := #[.tmp 14, .tmp 23]) rfl ?_); at_builtin; refine Kd.R_append_rows (Kd.int .u8) (w0 := w0) w0.heap.size rfl (.tmp 14) (.tmp 23) 63 5 (.int .u8 0) 1 rfl Tryd.underlying63 info5 rfl (by decide) (by omega) u9000_ l0 y120 _ _ _ (fun k_ => (P0_ k_ ∨ w.heap.size ≤ k_) ∧ some k_ ≠ (.slice Ao8 y120.length co8 : Value).ownBlock) (fun _ => False) rfl rfl ?aO ?aR (fun _ _ h => h) (fun _ h => h.elim) ?aF ?aB ?aS ?aL ?_; (case aR => repeat (first | exact (Kd.R_reads' HO122.out).2.2 | (with_reducible refine Kd.C_alloc ?_ _) | (with_reducible refine Kd.C_drewN ?_ _) | (with_reducible refine Kd.C_drew ?_))); (case aB => exact bel_); (case aF => exact (fun k_ hk => ⟨(.inr (Nat.le_trans (by first | exact HK.out.1 | exact (show Kept w _ (fun k_ => P0_ k_) from by repeat (first | (with_reducible first | exact HK.out | apply Kept.alloc | apply Kept.drewN | apply Kept.drew) | exact HK.out)).1) hk)), Kd.fresh' (Kd.R_lt (row_ HO122)) k_ hk⟩)); (case aO => exact (row_ HO0)); (case aS => exact (below_size bel_)); (case aL => have := LMc4.out; omega); intro v124 w7 ho hb hg hat; rw [← Ny123.out] at ho; have n0_ := am_ (Kd.R_after (ok := (fun k_ => (P0_ k_ ∨ w.heap.size ≤ k_))) (by (with_reducible repeat (first | apply Kd.R_alloc | apply Kd.R_drewN | apply Kd.R_drew)); exact Kd.R_mono HO122.out (fun _ hk => ⟨hk.1.1, hk.2⟩)) hg hat); have n1_ := am_ (hb); have n2_ := am_ (Kept.of_grown (S := (fun k_ => P0_ k_)) hg (by repeat (first | (with_reducible first | exact HK.out | apply Kept.alloc | apply Kept.drewN | apply Kept.drew) | exact HK.out)) (fun k_ e_ => (HO0.out.1 k_ e_).1)); have n3_ := am_ (ho); clear HO122; clear HB; clear HK; clear HO0; have HO122 := n0_; have HB := n1_; have HK := n2_; have HO125 := n3_; clear n0_ n1_ n2_ n3_; clear ho hb hg hat))
   go_ret
   exact ⟨_, rsl_, by (with_reducible repeat (first | apply Kd.R_alloc | apply Kd.R_drewN | apply Kd.R_drew)); exact Kd.R_mono HO125.out (fun _ hk => hk.1), by repeat (first | (with_reducible first | exact HB.out | apply below_alloc | apply pw_below_drewN | apply below_drew1) | exact HB.out), by repeat (first | (with_reducible first | exact HK.out | apply Kept.alloc | apply Kept.drewN | apply Kept.drew) | exact HK.out)⟩
  rw [if_neg c4] at H; exact absurd H (by simp)
 rw [if_neg c3] at H; have c3b0 : decide (((a1) % 4294967296) ≤ 2047) = false := df_ c3; clear c3; have HC9 := am_ H; clear H; go_enter Tryd.func139, Tryd.ntmps139
 go_upto_if 25 with (fail)
 go_cut [25] (fun v25 wc => ∃ (kq : Nat) (x25_8 : Bool), v25 = .bool x25_8 ∧ Aside0 (utf8_appendRuneNonASCII.j0 kq l0 a1 ((a1) % 4294967296) x25_8 = some r) ∧ Aside0 (kq ≤ k) ∧ Aside0 (Kd.R (Kd.int .u8) 5 wc w0.heap.size (fun k_ => (P0_ k_ ∨ w.heap.size ≤ k_)) u9000_ l0) ∧ Aside0 (Kept w wc (fun k_ => P0_ k_)) ∧ Aside0 (Below w0.heap.size w0 wc))
 case first =>
  have H := HC9.out; clear HC9; by_cases c10 : ((a1) % 4294967296) < 55296
  ·rw [if_pos c10] at H; have c10b0 : decide (((a1) % 4294967296) < 55296) = true := dt_ c10; clear c10; (first | rw [c10b0] | (simp only [i64_w, i32_w]; rw [c10b0]) | skip)
   have H' := am_ H; clear H; go_wp2; go_meet
   case rel => exact ⟨_, (decide (((a1) % 4294967296) < 55296)), rfs_, (by first | exact H' | (subst_vars; exact H')), ⟨ole_⟩, ⟨by (with_reducible repeat (first | apply Kd.R_alloc | apply Kd.R_drewN | apply Kd.R_drew)); exact HO0.out⟩, ⟨by repeat (first | (with_reducible first | exact HK.out | apply Kept.alloc | apply Kept.drewN | apply Kept.drew) | exact HK.out)⟩, ⟨bel_⟩⟩
  rw [if_neg c10] at H; have c10b0 : decide (((a1) % 4294967296) < 55296) = false := df_ c10; clear c10; (first | rw [c10b0] | (simp only [i64_w, i32_w]; rw [c10b0]) | skip)
  by_cases c11 : 57343 < ((a1) % 4294967296)
  ·rw [if_pos c11] at H; have c11b0 : decide (57343 < ((a1) % 4294967296)) = true := dt_ c11; clear c11; have H' := am_ H; clear H; go_wp2; go_meet
   case rel => exact ⟨_, (decide (((a1) % 4294967296) ≤ 65535)), rfs_, (by first | exact H' | (subst_vars; exact H')), ⟨ole_⟩, ⟨by (with_reducible repeat (first | apply Kd.R_alloc | apply Kd.R_drewN | apply Kd.R_drew)); exact HO0.out⟩, ⟨by repeat (first | (with_reducible first | exact HK.out | apply Kept.alloc | apply Kept.drewN | apply Kept.drew) | exact HK.out)⟩, ⟨bel_⟩⟩
  rw [if_neg c11] at H; have c11b0 : decide (57343 < ((a1) % 4294967296)) = false := df_ c11; clear c11; have H' := am_ H; clear H; go_wp2; go_meet
  case rel => exact ⟨_, (false), rfs_, (by first | exact H' | (subst_vars; exact H')), ⟨ole_⟩, ⟨by (with_reducible repeat (first | apply Kd.R_alloc | apply Kd.R_drewN | apply Kd.R_drew)); exact HO0.out⟩, ⟨by repeat (first | (with_reducible first | exact HK.out | apply Kept.alloc | apply Kept.drewN | apply Kept.drew) | exact HK.out)⟩, ⟨bel_⟩⟩
 clear HC9; try clear c3b0
 obtain ⟨kq, x25_8, rfl, HA, HJ8, HO_0, HK, HB⟩ := hcut
 cases kq with
 | zero => exact absurd HA.out (by simp [utf8_appendRuneNonASCII.j0])
 | succ kj8 =>
  have H := HA.out; clear HA; simp only [utf8_appendRuneNonASCII.j0] at H; by_cases c12 : x25_8 = true
  ·subst c12; rw [if_pos rfl] at H; obtain ⟨y126, hy126⟩ : ∃ y_ : List Int, y_ = (([Go.bits .or .u8 224 ((a1 / 4096) % 256), (128 + (a1 / 64) % 64), (128 + (a1) % 64)] : List Int)) := ⟨_, rfl⟩
   replace H : (if l0.length + y126.length < 140737488355328 then (some (l0 ++ y126)) else (none)) = some r := by first | (rw [hy126]; with_reducible exact H) | (have H2_ := (Option.bind_some _ _).symm.trans H; rw [hy126]; with_reducible exact H2_) | (have H2_ := (Option.bind_some _ _).symm.trans H; with_reducible exact H2_) | with_reducible exact H | (rw [hy126]; exact H) | exact H
   have Ny126 := am_ hy126; clear hy126; by_cases c13 : l0.length + y126.length < 140737488355328
   ·rw [if_pos c13] at H; have LMc13 := am_ c13; clear c13; obtain ⟨y129, hy129⟩ : ∃ y_ : List Int, y_ = (l0 ++ y126) := ⟨_, rfl⟩
    replace H : (some y129) = some r := by first | (rw [hy129]; with_reducible exact H) | (have H2_ := (Option.bind_some _ _).symm.trans H; rw [hy129]; with_reducible exact H2_) | (have H2_ := (Option.bind_some _ _).symm.trans H; with_reducible exact H2_) | with_reducible exact H | (rw [hy129]; exact H) | exact H
    have Ny129 := am_ hy129; clear hy129; obtain rfl := si_ H; go_wp2_with (first | ((with_reducible refine gate_dst (N := 48) rfl ?_); refine Kd.R_lit (Kd.int .u8) _ 5 ?hg (N := 48) ?hd (xs := ([Go.bits .or .u8 224 ((a1 / 4096) % 256), (128 + (a1 / 64) % 64), (128 + (a1) % 64)] : List Int)) (inner := [.int .u8 (Go.bits .or .u8 224 ((a1 / 4096) % 256)), .int .u8 ((128 + (a1 / 64) % 64)), .int .u8 ((128 + (a1) % 64))]) (ok := fun _ => True) (okp := fun _ => True) ?hr ?hp (fun _ hk => hk) trivial (Below.refl _ _) (Nat.le_refl _) (by simp) ?_; (case hd => rfl); (case hg => rfl); (case hr => first | (go_simp; done) | (go_simp; rfl)); (case hp => exact (Reps.one (show Kd.M (Kd.int .u8) _ _ _ (Go.bits .or .u8 224 ((a1 / 4096) % 256)) [.int .u8 (Go.bits .or .u8 224 ((a1 / 4096) % 256))] from rfl) (Reps.one (show Kd.M (Kd.int .u8) _ _ _ ((128 + (a1 / 64) % 64)) [.int .u8 ((128 + (a1 / 64) % 64))] from rfl) (Reps.one (show Kd.M (Kd.int .u8) _ _ _ ((128 + (a1) % 64)) [.int .u8 ((128 + (a1) % 64))] from rfl) (Reps.none _ _))))); intro v127 w14 ho15 hb hg_ hnew_; clear hg_ hnew_; (first | rw [← Ny126.out] at ho15 | (simp only [Int.reduceToNat] at ho15; rw [← Ny126.out] at ho15)); have HO128 := am_ (Kd.R_lower (Kd.R_new' (Kd.R_newM (M := fun k_ => (P0_ k_ ∨ w.heap.size ≤ k_)) ho15 (by first | exact HK.out.1 | exact (show Kept w _ (fun k_ => P0_ k_) from by repeat (first | (with_reducible first | exact HK.out | apply Kept.alloc | apply Kept.drewN | apply Kept.drew) | exact HK.out)).1) (fun k_ h_ => .inr h_)) (Kd.R_lt (row_ HO_0))) (below_size bel_)); replace HO_0 := am_ (Kd.R_elder' (row_ HO_0) (Kd.R_base ho15) hb); replace HK := am_ (Kept.below (S := (fun k_ => P0_ k_)) (by repeat (first | (with_reducible first | exact HK.out | apply Kept.alloc | apply Kept.drewN | apply Kept.drew) | exact HK.out)) hb); replace HB := am_ (below_step bel_ hb); clear hb ho15; obtain ⟨Ao17, co17, eo17⟩ := Kd.R_slice HO128.out; subst eo17) | ((with_reducible refine gate_builtin (b := .append) (xs := #[.tmp 34, .tmp 48]) rfl ?_); at_builtin; refine Kd.R_append_rows (Kd.int .u8) (w0 := w0) w0.heap.size rfl (.tmp 34) (.tmp 48) 63 5 (.int .u8 0) 1 rfl Tryd.underlying63 info5 rfl (by decide) (by omega) u9000_ l0 y126 _ _ _ (fun k_ => (P0_ k_ ∨ w.heap.size ≤ k_) ∧ some k_ ≠ (.slice Ao17 y126.length co17 : Value).ownBlock) (fun _ => False) rfl rfl ?aO ?aR (fun _ _ h => h) (fun _ h => h.elim) ?aF ?aB ?aS ?aL ?_; (case aR => repeat (first | exact (Kd.R_reads' HO128.out).2.2 | (with_reducible refine Kd.C_alloc ?_ _) | (with_reducible refine Kd.C_drewN ?_ _) | (with_reducible refine Kd.C_drew ?_))); (case aB => exact bel_); (case aF => exact (fun k_ hk => ⟨(.inr (Nat.le_trans (by first | exact HK.out.1 | exact (show Kept w _ (fun k_ => P0_ k_) from by repeat (first | (with_reducible first | exact HK.out | apply Kept.alloc | apply Kept.drewN | apply Kept.drew) | exact HK.out)).1) hk)), Kd.fresh' (Kd.R_lt (row_ HO128)) k_ hk⟩)); (case aO => exact (row_ HO_0)); (case aS => exact (below_size bel_)); (case aL => have := LMc13.out; omega); intro v130 w16 ho hb hg hat; rw [← Ny129.out] at ho; have n0_ := am_ (Kd.R_after (ok := (fun k_ => (P0_ k_ ∨ w.heap.size ≤ k_))) (by (with_reducible repeat (first | apply Kd.R_alloc | apply Kd.R_drewN | apply Kd.R_drew)); exact Kd.R_mono HO128.out (fun _ hk => ⟨hk.1.1, hk.2⟩)) hg hat); have n1_ := am_ (hb); have n2_ := am_ (Kept.of_grown (S := (fun k_ => P0_ k_)) hg (by repeat (first | (with_reducible first | exact HK.out | apply Kept.alloc | apply Kept.drewN | apply Kept.drew) | exact HK.out)) (fun k_ e_ => (HO_0.out.1 k_ e_).1)); have n3_ := am_ (ho); clear HO128; clear HB; clear HK; clear HO_0; have HO128 := n0_; have HB := n1_; have HK := n2_; have HO131 := n3_; clear n0_ n1_ n2_ n3_; clear ho hb hg hat))
    go_ret
    exact ⟨_, rsl_, by (with_reducible repeat (first | apply Kd.R_alloc | apply Kd.R_drewN | apply Kd.R_drew)); exact Kd.R_mono HO131.out (fun _ hk => hk.1), by repeat (first | (with_reducible first | exact HB.out | apply below_alloc | apply pw_below_drewN | apply below_drew1) | exact HB.out), by repeat (first | (with_reducible first | exact HK.out | apply Kept.alloc | apply Kept.drewN | apply Kept.drew) | exact HK.out)⟩
   rw [if_neg c13] at H; exact absurd H (by simp)
  replace c12 := Bool.eq_false_iff.mpr c12; subst c12; rw [if_neg (show ¬ (false = true) by decide)] at H; by_cases c18 : ((a1) % 4294967296) > 65535
  ·rw [if_pos c18] at H; have c18b0 : decide (65535 < ((a1) % 4294967296)) = true := dt_ c18; clear c18; by_cases c19 : ((a1) % 4294967296) ≤ 1114111
   ·rw [if_pos c19] at H; have c19b0 : decide (((a1) % 4294967296) ≤ 1114111) = true := dt_ c19; clear c19; obtain ⟨y132, hy132⟩ : ∃ y_ : List Int, y_ = (([Go.bits .or .u8 240 ((a1 / 262144) % 256), (128 + (a1 / 4096) % 64), (128 + (a1 / 64) % 64), (128 + (a1) % 64)] : List Int)) := ⟨_, rfl⟩
    replace H : (if l0.length + y132.length < 140737488355328 then (some (l0 ++ y132)) else (none)) = some r := by first | (rw [hy132]; with_reducible exact H) | (have H2_ := (Option.bind_some _ _).symm.trans H; rw [hy132]; with_reducible exact H2_) | (have H2_ := (Option.bind_some _ _).symm.trans H; with_reducible exact H2_) | with_reducible exact H | (rw [hy132]; exact H) | exact H
    have Ny132 := am_ hy132; clear hy132; by_cases c20 : l0.length + y132.length < 140737488355328
    ·rw [if_pos c20] at H; have LMc20 := am_ c20; clear c20; obtain ⟨y135, hy135⟩ : ∃ y_ : List Int, y_ = (l0 ++ y132) := ⟨_, rfl⟩
     replace H : (some y135) = some r := by first | (rw [hy135]; with_reducible exact H) | (have H2_ := (Option.bind_some _ _).symm.trans H; rw [hy135]; with_reducible exact H2_) | (have H2_ := (Option.bind_some _ _).symm.trans H; with_reducible exact H2_) | with_reducible exact H | (rw [hy135]; exact H) | exact H
     have Ny135 := am_ hy135; clear hy135; obtain rfl := si_ H; go_wp2_with (first | ((with_reducible refine gate_dst (N := 76) rfl ?_); refine Kd.R_lit (Kd.int .u8) _ 5 ?hg (N := 76) ?hd (xs := ([Go.bits .or .u8 240 ((a1 / 262144) % 256), (128 + (a1 / 4096) % 64), (128 + (a1 / 64) % 64), (128 + (a1) % 64)] : List Int)) (inner := [.int .u8 (Go.bits .or .u8 240 ((a1 / 262144) % 256)), .int .u8 ((128 + (a1 / 4096) % 64)), .int .u8 ((128 + (a1 / 64) % 64)), .int .u8 ((128 + (a1) % 64))]) (ok := fun _ => True) (okp := fun _ => True) ?hr ?hp (fun _ hk => hk) trivial (Below.refl _ _) (Nat.le_refl _) (by simp) ?_; (case hd => rfl); (case hg => rfl); (case hr => first | (go_simp; done) | (go_simp; rfl)); (case hp => exact (Reps.one (show Kd.M (Kd.int .u8) _ _ _ (Go.bits .or .u8 240 ((a1 / 262144) % 256)) [.int .u8 (Go.bits .or .u8 240 ((a1 / 262144) % 256))] from rfl) (Reps.one (show Kd.M (Kd.int .u8) _ _ _ ((128 + (a1 / 4096) % 64)) [.int .u8 ((128 + (a1 / 4096) % 64))] from rfl) (Reps.one (show Kd.M (Kd.int .u8) _ _ _ ((128 + (a1 / 64) % 64)) [.int .u8 ((128 + (a1 / 64) % 64))] from rfl) (Reps.one (show Kd.M (Kd.int .u8) _ _ _ ((128 + (a1) % 64)) [.int .u8 ((128 + (a1) % 64))] from rfl) (Reps.none _ _)))))); intro v133 w21 ho22 hb hg_ hnew_; clear hg_ hnew_; (first | rw [← Ny132.out] at ho22 | (simp only [Int.reduceToNat] at ho22; rw [← Ny132.out] at ho22)); have HO134 := am_ (Kd.R_lower (Kd.R_new' (Kd.R_newM (M := fun k_ => (P0_ k_ ∨ w.heap.size ≤ k_)) ho22 (by first | exact HK.out.1 | exact (show Kept w _ (fun k_ => P0_ k_) from by repeat (first | (with_reducible first | exact HK.out | apply Kept.alloc | apply Kept.drewN | apply Kept.drew) | exact HK.out)).1) (fun k_ h_ => .inr h_)) (Kd.R_lt (row_ HO_0))) (below_size bel_)); replace HO_0 := am_ (Kd.R_elder' (row_ HO_0) (Kd.R_base ho22) hb); replace HK := am_ (Kept.below (S := (fun k_ => P0_ k_)) (by repeat (first | (with_reducible first | exact HK.out | apply Kept.alloc | apply Kept.drewN | apply Kept.drew) | exact HK.out)) hb); replace HB := am_ (below_step bel_ hb); clear hb ho22; obtain ⟨Ao24, co24, eo24⟩ := Kd.R_slice HO134.out; subst eo24) | ((with_reducible refine gate_builtin (b := .append) (xs := #[.tmp 57, .tmp 76]) rfl ?_); at_builtin; refine Kd.R_append_rows (Kd.int .u8) (w0 := w0) w0.heap.size rfl (.tmp 57) (.tmp 76) 63 5 (.int .u8 0) 1 rfl Tryd.underlying63 info5 rfl (by decide) (by omega) u9000_ l0 y132 _ _ _ (fun k_ => (P0_ k_ ∨ w.heap.size ≤ k_) ∧ some k_ ≠ (.slice Ao24 y132.length co24 : Value).ownBlock) (fun _ => False) rfl rfl ?aO ?aR (fun _ _ h => h) (fun _ h => h.elim) ?aF ?aB ?aS ?aL ?_; (case aR => repeat (first | exact (Kd.R_reads' HO134.out).2.2 | (with_reducible refine Kd.C_alloc ?_ _) | (with_reducible refine Kd.C_drewN ?_ _) | (with_reducible refine Kd.C_drew ?_))); (case aB => exact bel_); (case aF => exact (fun k_ hk => ⟨(.inr (Nat.le_trans (by first | exact HK.out.1 | exact (show Kept w _ (fun k_ => P0_ k_) from by repeat (first | (with_reducible first | exact HK.out | apply Kept.alloc | apply Kept.drewN | apply Kept.drew) | exact HK.out)).1) hk)), Kd.fresh' (Kd.R_lt (row_ HO134)) k_ hk⟩)); (case aO => exact (row_ HO_0)); (case aS => exact (below_size bel_)); (case aL => have := LMc20.out; omega); intro v136 w23 ho hb hg hat; rw [← Ny135.out] at ho; have n0_ := am_ (Kd.R_after (ok := (fun k_ => (P0_ k_ ∨ w.heap.size ≤ k_))) (by (with_reducible repeat (first | apply Kd.R_alloc | apply Kd.R_drewN | apply Kd.R_drew)); exact Kd.R_mono HO134.out (fun _ hk => ⟨hk.1.1, hk.2⟩)) hg hat); have n1_ := am_ (hb); have n2_ := am_ (Kept.of_grown (S := (fun k_ => P0_ k_)) hg (by repeat (first | (with_reducible first | exact HK.out | apply Kept.alloc | apply Kept.drewN | apply Kept.drew) | exact HK.out)) (fun k_ e_ => (HO_0.out.1 k_ e_).1)); have n3_ := am_ (ho); clear HO134; clear HB; clear HK; clear HO_0; have HO134 := n0_; have HB := n1_; have HK := n2_; have HO137 := n3_; clear n0_ n1_ n2_ n3_; clear ho hb hg hat))
     go_ret
     exact ⟨_, rsl_, by (with_reducible repeat (first | apply Kd.R_alloc | apply Kd.R_drewN | apply Kd.R_drew)); exact Kd.R_mono HO137.out (fun _ hk => hk.1), by repeat (first | (with_reducible first | exact HB.out | apply below_alloc | apply pw_below_drewN | apply below_drew1) | exact HB.out), by repeat (first | (with_reducible first | exact HK.out | apply Kept.alloc | apply Kept.drewN | apply Kept.drew) | exact HK.out)⟩
    rw [if_neg c20] at H; exact absurd H (by simp)
   rw [if_neg c19] at H; have c19b0 : decide (((a1) % 4294967296) ≤ 1114111) = false := df_ c19; clear c19; obtain ⟨y138, hy138⟩ : ∃ y_ : List Int, y_ = (([239, 191, 189] : List Int)) := ⟨_, rfl⟩
   replace H : (if l0.length + y138.length < 140737488355328 then (some (l0 ++ y138)) else (none)) = some r := by first | (rw [hy138]; with_reducible exact H) | (have H2_ := (Option.bind_some _ _).symm.trans H; rw [hy138]; with_reducible exact H2_) | (have H2_ := (Option.bind_some _ _).symm.trans H; with_reducible exact H2_) | with_reducible exact H | (rw [hy138]; exact H) | exact H
   have Ny138 := am_ hy138; clear hy138; by_cases c25 : l0.length + y138.length < 140737488355328
   ·rw [if_pos c25] at H; have LMc25 := am_ c25; clear c25; obtain ⟨y141, hy141⟩ : ∃ y_ : List Int, y_ = (l0 ++ y138) := ⟨_, rfl⟩
    replace H : (some y141) = some r := by first | (rw [hy141]; with_reducible exact H) | (have H2_ := (Option.bind_some _ _).symm.trans H; rw [hy141]; with_reducible exact H2_) | (have H2_ := (Option.bind_some _ _).symm.trans H; with_reducible exact H2_) | with_reducible exact H | (rw [hy141]; exact H) | exact H
    have Ny141 := am_ hy141; clear hy141; obtain rfl := si_ H; go_wp2_with (first | ((with_reducible refine gate_dst (N := 9) rfl ?_); refine Kd.R_lit (Kd.int .u8) _ 5 ?hg (N := 9) ?hd (xs := ([239, 191, 189] : List Int)) (inner := [.int .u8 239, .int .u8 191, .int .u8 189]) (ok := fun _ => True) (okp := fun _ => True) ?hr ?hp (fun _ hk => hk) trivial (Below.refl _ _) (Nat.le_refl _) (by simp) ?_; (case hd => rfl); (case hg => rfl); (case hr => first | (go_simp; done) | (go_simp; rfl)); (case hp => exact (Reps.one (show Kd.M (Kd.int .u8) _ _ _ 239 [.int .u8 239] from rfl) (Reps.one (show Kd.M (Kd.int .u8) _ _ _ 191 [.int .u8 191] from rfl) (Reps.one (show Kd.M (Kd.int .u8) _ _ _ 189 [.int .u8 189] from rfl) (Reps.none _ _))))); intro v139 w26 ho27 hb hg_ hnew_; clear hg_ hnew_; (first | rw [← Ny138.out] at ho27 | (simp only [Int.reduceToNat] at ho27; rw [← Ny138.out] at ho27)); have HO140 := am_ (Kd.R_lower (Kd.R_new' (Kd.R_newM (M := fun k_ => (P0_ k_ ∨ w.heap.size ≤ k_)) ho27 (by first | exact HK.out.1 | exact (show Kept w _ (fun k_ => P0_ k_) from by repeat (first | (with_reducible first | exact HK.out | apply Kept.alloc | apply Kept.drewN | apply Kept.drew) | exact HK.out)).1) (fun k_ h_ => .inr h_)) (Kd.R_lt (row_ HO_0))) (below_size bel_)); replace HO_0 := am_ (Kd.R_elder' (row_ HO_0) (Kd.R_base ho27) hb); replace HK := am_ (Kept.below (S := (fun k_ => P0_ k_)) (by repeat (first | (with_reducible first | exact HK.out | apply Kept.alloc | apply Kept.drewN | apply Kept.drew) | exact HK.out)) hb); replace HB := am_ (below_step bel_ hb); clear hb ho27; obtain ⟨Ao29, co29, eo29⟩ := Kd.R_slice HO140.out; subst eo29) | ((with_reducible refine gate_builtin (b := .append) (xs := #[.tmp 8, .tmp 9]) rfl ?_); at_builtin; refine Kd.R_append_rows (Kd.int .u8) (w0 := w0) w0.heap.size rfl (.tmp 8) (.tmp 9) 63 5 (.int .u8 0) 1 rfl Tryd.underlying63 info5 rfl (by decide) (by omega) u9000_ l0 y138 _ _ _ (fun k_ => (P0_ k_ ∨ w.heap.size ≤ k_) ∧ some k_ ≠ (.slice Ao29 y138.length co29 : Value).ownBlock) (fun _ => False) rfl rfl ?aO ?aR (fun _ _ h => h) (fun _ h => h.elim) ?aF ?aB ?aS ?aL ?_; (case aR => repeat (first | exact (Kd.R_reads' HO140.out).2.2 | (with_reducible refine Kd.C_alloc ?_ _) | (with_reducible refine Kd.C_drewN ?_ _) | (with_reducible refine Kd.C_drew ?_))); (case aB => exact bel_); (case aF => exact (fun k_ hk => ⟨(.inr (Nat.le_trans (by first | exact HK.out.1 | exact (show Kept w _ (fun k_ => P0_ k_) from by repeat (first | (with_reducible first | exact HK.out | apply Kept.alloc | apply Kept.drewN | apply Kept.drew) | exact HK.out)).1) hk)), Kd.fresh' (Kd.R_lt (row_ HO140)) k_ hk⟩)); (case aO => exact (row_ HO_0)); (case aS => exact (below_size bel_)); (case aL => have := LMc25.out; omega); intro v142 w28 ho hb hg hat; rw [← Ny141.out] at ho; have n0_ := am_ (Kd.R_after (ok := (fun k_ => (P0_ k_ ∨ w.heap.size ≤ k_))) (by (with_reducible repeat (first | apply Kd.R_alloc | apply Kd.R_drewN | apply Kd.R_drew)); exact Kd.R_mono HO140.out (fun _ hk => ⟨hk.1.1, hk.2⟩)) hg hat); have n1_ := am_ (hb); have n2_ := am_ (Kept.of_grown (S := (fun k_ => P0_ k_)) hg (by repeat (first | (with_reducible first | exact HK.out | apply Kept.alloc | apply Kept.drewN | apply Kept.drew) | exact HK.out)) (fun k_ e_ => (HO_0.out.1 k_ e_).1)); have n3_ := am_ (ho); clear HO140; clear HB; clear HK; clear HO_0; have HO140 := n0_; have HB := n1_; have HK := n2_; have HO143 := n3_; clear n0_ n1_ n2_ n3_; clear ho hb hg hat))
    go_ret
    exact ⟨_, rsl_, by (with_reducible repeat (first | apply Kd.R_alloc | apply Kd.R_drewN | apply Kd.R_drew)); exact Kd.R_mono HO143.out (fun _ hk => hk.1), by repeat (first | (with_reducible first | exact HB.out | apply below_alloc | apply pw_below_drewN | apply below_drew1) | exact HB.out), by repeat (first | (with_reducible first | exact HK.out | apply Kept.alloc | apply Kept.drewN | apply Kept.drew) | exact HK.out)⟩
   rw [if_neg c25] at H; exact absurd H (by simp)
  rw [if_neg c18] at H; have c18b0 : decide (65535 < ((a1) % 4294967296)) = false := df_ c18; clear c18; obtain ⟨y144, hy144⟩ : ∃ y_ : List Int, y_ = (([239, 191, 189] : List Int)) := ⟨_, rfl⟩
  replace H : (if l0.length + y144.length < 140737488355328 then (some (l0 ++ y144)) else (none)) = some r := by first | (rw [hy144]; with_reducible exact H) | (have H2_ := (Option.bind_some _ _).symm.trans H; rw [hy144]; with_reducible exact H2_) | (have H2_ := (Option.bind_some _ _).symm.trans H; with_reducible exact H2_) | with_reducible exact H | (rw [hy144]; exact H) | exact H
  have Ny144 := am_ hy144; clear hy144; by_cases c30 : l0.length + y144.length < 140737488355328
  ·rw [if_pos c30] at H; have LMc30 := am_ c30; clear c30; obtain ⟨y147, hy147⟩ : ∃ y_ : List Int, y_ = (l0 ++ y144) := ⟨_, rfl⟩
   replace H : (some y147) = some r := by first | (rw [hy147]; with_reducible exact H) | (have H2_ := (Option.bind_some _ _).symm.trans H; rw [hy147]; with_reducible exact H2_) | (have H2_ := (Option.bind_some _ _).symm.trans H; with_reducible exact H2_) | with_reducible exact H | (rw [hy147]; exact H) | exact H
   have Ny147 := am_ hy147; clear hy147; obtain rfl := si_ H; go_wp2_with (first | ((with_reducible refine gate_dst (N := 9) rfl ?_); refine Kd.R_lit (Kd.int .u8) _ 5 ?hg (N := 9) ?hd (xs := ([239, 191, 189] : List Int)) (inner := [.int .u8 239, .int .u8 191, .int .u8 189]) (ok := fun _ => True) (okp := fun _ => True) ?hr ?hp (fun _ hk => hk) trivial (Below.refl _ _) (Nat.le_refl _) (by simp) ?_; (case hd => rfl); (case hg => rfl); (case hr => first | (go_simp; done) | (go_simp; rfl)); (case hp => exact (Reps.one (show Kd.M (Kd.int .u8) _ _ _ 239 [.int .u8 239] from rfl) (Reps.one (show Kd.M (Kd.int .u8) _ _ _ 191 [.int .u8 191] from rfl) (Reps.one (show Kd.M (Kd.int .u8) _ _ _ 189 [.int .u8 189] from rfl) (Reps.none _ _))))); intro v145 w31 ho32 hb hg_ hnew_; clear hg_ hnew_; (first | rw [← Ny144.out] at ho32 | (simp only [Int.reduceToNat] at ho32; rw [← Ny144.out] at ho32)); have HO146 := am_ (Kd.R_lower (Kd.R_new' (Kd.R_newM (M := fun k_ => (P0_ k_ ∨ w.heap.size ≤ k_)) ho32 (by first | exact HK.out.1 | exact (show Kept w _ (fun k_ => P0_ k_) from by repeat (first | (with_reducible first | exact HK.out | apply Kept.alloc | apply Kept.drewN | apply Kept.drew) | exact HK.out)).1) (fun k_ h_ => .inr h_)) (Kd.R_lt (row_ HO_0))) (below_size bel_)); replace HO_0 := am_ (Kd.R_elder' (row_ HO_0) (Kd.R_base ho32) hb); replace HK := am_ (Kept.below (S := (fun k_ => P0_ k_)) (by repeat (first | (with_reducible first | exact HK.out | apply Kept.alloc | apply Kept.drewN | apply Kept.drew) | exact HK.out)) hb); replace HB := am_ (below_step bel_ hb); clear hb ho32; obtain ⟨Ao34, co34, eo34⟩ := Kd.R_slice HO146.out; subst eo34) | ((with_reducible refine gate_builtin (b := .append) (xs := #[.tmp 8, .tmp 9]) rfl ?_); at_builtin; refine Kd.R_append_rows (Kd.int .u8) (w0 := w0) w0.heap.size rfl (.tmp 8) (.tmp 9) 63 5 (.int .u8 0) 1 rfl Tryd.underlying63 info5 rfl (by decide) (by omega) u9000_ l0 y144 _ _ _ (fun k_ => (P0_ k_ ∨ w.heap.size ≤ k_) ∧ some k_ ≠ (.slice Ao34 y144.length co34 : Value).ownBlock) (fun _ => False) rfl rfl ?aO ?aR (fun _ _ h => h) (fun _ h => h.elim) ?aF ?aB ?aS ?aL ?_; (case aR => repeat (first | exact (Kd.R_reads' HO146.out).2.2 | (with_reducible refine Kd.C_alloc ?_ _) | (with_reducible refine Kd.C_drewN ?_ _) | (with_reducible refine Kd.C_drew ?_))); (case aB => exact bel_); (case aF => exact (fun k_ hk => ⟨(.inr (Nat.le_trans (by first | exact HK.out.1 | exact (show Kept w _ (fun k_ => P0_ k_) from by repeat (first | (with_reducible first | exact HK.out | apply Kept.alloc | apply Kept.drewN | apply Kept.drew) | exact HK.out)).1) hk)), Kd.fresh' (Kd.R_lt (row_ HO146)) k_ hk⟩)); (case aO => exact (row_ HO_0)); (case aS => exact (below_size bel_)); (case aL => have := LMc30.out; omega); intro v148 w33 ho hb hg hat; rw [← Ny147.out] at ho; have n0_ := am_ (Kd.R_after (ok := (fun k_ => (P0_ k_ ∨ w.heap.size ≤ k_))) (by (with_reducible repeat (first | apply Kd.R_alloc | apply Kd.R_drewN | apply Kd.R_drew)); exact Kd.R_mono HO146.out (fun _ hk => ⟨hk.1.1, hk.2⟩)) hg hat); have n1_ := am_ (hb); have n2_ := am_ (Kept.of_grown (S := (fun k_ => P0_ k_)) hg (by repeat (first | (with_reducible first | exact HK.out | apply Kept.alloc | apply Kept.drewN | apply Kept.drew) | exact HK.out)) (fun k_ e_ => (HO_0.out.1 k_ e_).1)); have n3_ := am_ (ho); clear HO146; clear HB; clear HK; clear HO_0; have HO146 := n0_; have HB := n1_; have HK := n2_; have HO149 := n3_; clear n0_ n1_ n2_ n3_; clear ho hb hg hat))
   go_ret
   exact ⟨_, rsl_, by (with_reducible repeat (first | apply Kd.R_alloc | apply Kd.R_drewN | apply Kd.R_drew)); exact Kd.R_mono HO149.out (fun _ hk => hk.1), by repeat (first | (with_reducible first | exact HB.out | apply below_alloc | apply pw_below_drewN | apply below_drew1) | exact HB.out), by repeat (first | (with_reducible first | exact HK.out | apply Kept.alloc | apply Kept.drewN | apply Kept.drew) | exact HK.out)⟩
  rw [if_neg c30] at H; exact absurd H (by simp)

/-! ### utf8_AppendRune: function 136 -/
def utf8_AppendRune.f (k : Nat) (l0 : List Int) (a1 : Int) : Option (List Int) := if ((a1) % 4294967296) ≤ 127 then (if l0.length < 140737488355328 then (some (l0 ++ [(a1) % 256])) else (none)) else ((utf8_appendRuneNonASCII.f k l0 a1).bind fun t153 => (some t153))
theorem utf8_AppendRune.mono : ∀ a0 a1 k, LeO (utf8_AppendRune.f k a0 a1) (utf8_AppendRune.f (k + 1) a0 a1) := by
 intro a0 a1 k; unfold utf8_AppendRune.f; repeat' first
   | (with_reducible exact utf8_appendRuneNonASCII.mono _ _ _)
   | (with_reducible first | exact LeO.refl _ | exact LeO.none _ | refine LeO.ite ?_ ?_ | refine LeO.bind ?_ (fun _ => ?_))
set_option maxHeartbeats 8000000 in
theorem utf8_AppendRune.calls (k : Nat) (P0_ : Nat → Prop) (u9000_ : Value) (l0 : List Int) (a1 : Int) (r : List Int) (w0 w : World) (hB : Below w0.heap.size w0 w) (ho0 : Kd.R (Kd.int .u8) 5 w w0.heap.size P0_ u9000_ l0) (h : utf8_AppendRune.f k l0 a1 = some r) :
  Calls Tryd.prog 136 #[u9000_, .int .i32 a1] w fun e w' => ∃ v0_ : Value, e = .returned (v0_) ∧ Kd.R (Kd.int .u8) 5 w' w0.heap.size (fun k_ => (P0_ k_ ∨ w.heap.size ≤ k_)) v0_ r ∧ Below w0.heap.size w0 w' ∧ Kept w w' (fun k_ => P0_ k_) := by
 have HO0 := am_ (show Kd.R (Kd.int .u8) 5 w w0.heap.size (fun k_ => (P0_ k_ ∨ w.heap.size ≤ k_)) u9000_ l0 from Kd.R_mono ho0 (fun k_ hk => (.inl hk))); have HK := am_ (Kept.refl w (fun k_ => P0_ k_)); have HW0 := am_ hB.size; have HB := am_ hB; clear hB; have H : (if ((a1) % 4294967296) ≤ 127 then (if l0.length < 140737488355328 then (some (l0 ++ [(a1) % 256])) else (none)) else ((utf8_appendRuneNonASCII.f k l0 a1).bind fun t153 => (some t153))) = some r := h; clear h; by_cases c3 : ((a1) % 4294967296) ≤ 127
 ·rw [if_pos c3] at H; have c3b0 : decide (((a1) % 4294967296) ≤ 127) = true := dt_ c3; clear c3; by_cases c4 : l0.length < 140737488355328
  ·rw [if_pos c4] at H; have LMc4 := am_ c4; clear c4; obtain ⟨y150, hy150⟩ : ∃ y_ : List Int, y_ = (l0 ++ [(a1) % 256]) := ⟨_, rfl⟩
   replace H : (some y150) = some r := by first | (rw [hy150]; with_reducible exact H) | (have H2_ := (Option.bind_some _ _).symm.trans H; rw [hy150]; with_reducible exact H2_) | (have H2_ := (Option.bind_some _ _).symm.trans H; with_reducible exact H2_) | with_reducible exact H | (rw [hy150]; exact H) | exact H
   have Ny150 := am_ hy150; clear hy150; obtain rfl := si_ H; go_enter Tryd.func136, Tryd.ntmps136
   go_wp2_with (first | ((with_reducible refine gate_builtin (b := .append) (xs := #[.tmp 8, .tmp 11]) rfl ?_); at_builtin; refine Kd.R_append (Kd.int .u8) (w0 := w0) w0.heap.size rfl (.tmp 8) (.tmp 11) 63 5 (.int .u8 0) 1 rfl Tryd.underlying63 info5 rfl (by decide) (by omega) u9000_ l0 ((a1) % 256) [.int .u8 ((a1) % 256)] (fun k_ => (P0_ k_ ∨ w.heap.size ≤ k_)) (fun _ => False) rfl rfl ?aP (fun _ hk => hk.elim) ?aF ?aO ?aB ?aS ?aL ?_; (case aP => exact rfl); (case aB => exact bel_); (case aF => exact (fun k_ hk => (.inr (Nat.le_trans (by first | exact HK.out.1 | exact (show Kept w _ (fun k_ => P0_ k_) from by repeat (first | (with_reducible first | exact HK.out | apply Kept.alloc | apply Kept.drewN | apply Kept.drew) | exact HK.out)).1) hk)))); (case aO => exact (row_ HO0)); (case aS => exact (below_size bel_)); (case aL => have := LMc4.out; omega); intro v151 w5 ho hb hg hat; rw [← Ny150.out] at ho; have n0_ := am_ (hb); have n1_ := am_ (Kept.of_grown (S := (fun k_ => P0_ k_)) hg (by repeat (first | (with_reducible first | exact HK.out | apply Kept.alloc | apply Kept.drewN | apply Kept.drew) | exact HK.out)) (fun k_ e_ => (HO0.out.1 k_ e_))); have n2_ := am_ (ho); clear HB; clear HK; clear HO0; have HB := n0_; have HK := n1_; have HO152 := n2_; clear n0_ n1_ n2_; clear ho hb hg hat))
   go_ret
   exact ⟨_, rsl_, by (with_reducible repeat (first | apply Kd.R_alloc | apply Kd.R_drewN | apply Kd.R_drew)); exact HO152.out, by repeat (first | (with_reducible first | exact HB.out | apply below_alloc | apply pw_below_drewN | apply below_drew1) | exact HB.out), by repeat (first | (with_reducible first | exact HK.out | apply Kept.alloc | apply Kept.drewN | apply Kept.drew) | exact HK.out)⟩
  rw [if_neg c4] at H; exact absurd H (by simp)
 rw [if_neg c3] at H; have c3b0 : decide (((a1) % 4294967296) ≤ 127) = false := df_ c3; clear c3; replace H := bs_ H; obtain ⟨t153, A60, H⟩ := H; try dsimp only at H
 have A6 := am_ A60; clear A60; obtain rfl := si_ H; obtain ⟨Ao7, co7, eo7⟩ := Kd.R_slice HO0.out; subst eo7; go_enter Tryd.func136, Tryd.ntmps136
 go_wp2_with (first | ((with_reducible refine gate_callee (f := 139) rfl ?_); refine goesL_ (some 15) rfl rfl Tryd.func139 (by kernel_rfl) rfl #[.slice Ao7 l0.length co7, .int .i32 a1] rfl goa_ ?_; (with_reducible refine (utf8_appendRuneNonASCII.calls k (fun k_ => some k_ = (.slice Ao7 l0.length co7 : Value).ownBlock) (.slice Ao7 l0.length co7) l0 a1 t153 w0 _ ?side1 ?side2 A6.out).mono ?_); (case side1 => repeat (first | (with_reducible first | exact HB.out | apply below_alloc | apply pw_below_drewN | apply below_drew1) | exact HB.out)); (case side2 => exact Kd.R_tight rfl HO0.out); rintro e w8 ⟨v154, rfl, ho0, hb, hkp⟩; refine ⟨_, rfl, ?_⟩; have n0_ := am_ (Kd.R_mono (ok' := fun k_ => (P0_ k_ ∨ w.heap.size ≤ k_)) ho0 (fun k_ hk_ => Or.elim hk_ (fun hs_ => (HO0.out.1 k_ (hs_).symm)) (fun hn_ => (.inr (Nat.le_trans (by first | exact HK.out.1 | exact (show Kept w _ (fun k_ => P0_ k_) from by repeat (first | (with_reducible first | exact HK.out | apply Kept.alloc | apply Kept.drewN | apply Kept.drew) | exact HK.out)).1) hn_))))); have n1_ := am_ (Kept.then_ (S := (fun k_ => P0_ k_)) (by repeat (first | (with_reducible first | exact HK.out | apply Kept.alloc | apply Kept.drewN | apply Kept.drew) | exact HK.out)) hkp (fun k_ hs_ => (fun e_ => (HO0.out.1 k_ e_.symm)) hs_)); have n2_ := am_ (hb); clear HK; clear HB; clear HO0; have HO155 := n0_; have HK := n1_; have HB := n2_; clear n0_ n1_ n2_; (try clear hb); (try clear hkp); (try clear ho0)))
 go_ret
 exact ⟨_, rsl_, by (with_reducible repeat (first | apply Kd.R_alloc | apply Kd.R_drewN | apply Kd.R_drew)); exact HO155.out, by repeat (first | (with_reducible first | exact HB.out | apply below_alloc | apply pw_below_drewN | apply below_drew1) | exact HB.out), by repeat (first | (with_reducible first | exact HK.out | apply Kept.alloc | apply Kept.drewN | apply Kept.drew) | exact HK.out)⟩


/-! ### token_character: function 129 -/
def token_character.j0 : Nat → Int → Bool → Option (ByteArray)
 | 0, _, _ => none
 | k + 1, x0, x6 => if x6 = true then ((utf8_AppendRune.f k ([] : List Int) 65533).bind fun t159 => (some (strOfNums t159))) else (if x0 > 1114111 then ((utf8_AppendRune.f k ([] : List Int) 65533).bind fun t162 => (some (strOfNums t162))) else ((utf8_AppendRune.f k ([] : List Int) (wrap32 (x0))).bind fun t165 => (some (strOfNums t165))))
def token_character.f (k : Nat) (a0 : Int) : Option (ByteArray) := if a0 = 0 then ((utf8_AppendRune.f k ([] : List Int) 65533).bind fun t156 => (some (strOfNums t156))) else (if a0 ≥ 55296 then (token_character.j0 k a0 (decide (a0 ≤ 57343))) else (token_character.j0 k a0 false))
theorem token_character.mono_l : ∀ k, (∀ y0 y1, LeO (token_character.j0 k y0 y1) (token_character.j0 (k + 1) y0 y1))
 | 0 => fun _ _ r h => by simp [token_character.j0] at h
 | k + 1 => by
  have ih0 := token_character.mono_l k; intro y0 y1; unfold token_character.j0; repeat' first
  | (with_reducible exact ih0 _ _)
  | (with_reducible exact utf8_AppendRune.mono _ _ _)
  | (with_reducible first | exact LeO.refl _ | exact LeO.none _ | refine LeO.ite ?_ ?_ | refine LeO.bind ?_ (fun _ => ?_))
theorem token_character.mono : ∀ a0 k, LeO (token_character.f k a0) (token_character.f (k + 1) a0) := by
 intro a0 k; have ih0 := token_character.mono_l k; unfold token_character.f; repeat' first
   | (with_reducible exact ih0 _ _)
   | (with_reducible exact utf8_AppendRune.mono _ _ _)
   | (with_reducible first | exact LeO.refl _ | exact LeO.none _ | refine LeO.ite ?_ ?_ | refine LeO.bind ?_ (fun _ => ?_))
set_option maxHeartbeats 8000000 in
theorem token_character.calls (k : Nat) (a0 : Int) (r : ByteArray) (w : World) (h : token_character.f k a0 = some r) :
  Calls Tryd.prog 129 #[.int .i64 a0] w fun e w' => e = .returned (.string r) ∧ Below w.heap.size w w' := by
 have HB := am_ (Below.refl w.heap.size w); have H : (if a0 = 0 then ((utf8_AppendRune.f k ([] : List Int) 65533).bind fun t156 => (some (strOfNums t156))) else (if a0 ≥ 55296 then (token_character.j0 k a0 (decide (a0 ≤ 57343))) else (token_character.j0 k a0 false))) = some r := h; clear h; by_cases c2 : a0 = 0
 ·rw [if_pos c2] at H; have c2b0 : (a0 == 0) = true := beq_iff_eq.mpr c2; have c2b1 : (a0 != 0) = false := bne_eq_false_iff_eq.mpr c2; clear c2; replace H := bs_ H; obtain ⟨t156, A30, H⟩ := H; try dsimp only at H
  have A3 := am_ A30; clear A30; obtain rfl := si_ H; go_enter Tryd.func129, Tryd.ntmps129
  go_wp2_with (first | ((with_reducible refine gate_callee (f := 136) rfl ?_); refine goesL_ (some 17) rfl rfl Tryd.func136 (by kernel_rfl) rfl #[.slice none 0 0, .int .i32 65533] rfl goa_ ?_; (refine (utf8_AppendRune.calls k (fun k_ => some k_ = (.slice none 0 0 : Value).ownBlock) (.slice none 0 0) ([] : List Int) 65533 t156 w _ ?side1 ?side2 A3.out).mono ?_); (case side1 => repeat (first | (with_reducible first | exact HB.out | apply below_alloc | apply pw_below_drewN | apply below_drew1) | exact HB.out)); (case side2 => exact Kd.R_nil _ _ _ _ _); rintro e w4 ⟨v157, rfl, ho0, hb, hkp⟩; refine ⟨_, rfl, ?_⟩; have HO158 := am_ (Kd.R_mono (ok' := fun k_ => True) ho0 (fun k_ hk_ => trivial)); replace HB := am_ (hb); (try clear hb); (try clear hkp); (try clear ho0); have hcv5 := own_string (P := Tryd.prog) Tryd.underlying63 Tryd.underlying5 Tryd.underlying9 (Kd.own_of_R HO158.out)))
  go_ret
  exact ⟨rsl_, bel_⟩
 rw [if_neg c2] at H; have c2b0 : (a0 == 0) = false := beq_eq_false_iff_ne.mpr c2; have c2b1 : (a0 != 0) = true := bne_iff_ne.mpr c2; have HC6 := am_ H; clear H; go_enter Tryd.func129, Tryd.ntmps129
 go_upto_region 2 with (fail)
 go_cut [6] (fun v6 wc => ∃ (kq : Nat) (x6_5 : Bool), v6 = .bool x6_5 ∧ Aside0 (token_character.j0 kq a0 x6_5 = some r) ∧ Aside0 (kq ≤ k) ∧ Aside0 (Below w.heap.size w wc))
 case first =>
  have H := HC6.out; clear HC6; by_cases c7 : a0 ≥ 55296
  ·rw [if_pos c7] at H; have c7b0 : decide (55296 ≤ a0) = true := dt_ c7; clear c7; (first | rw [c7b0] | (simp only [i64_w, i32_w]; rw [c7b0]) | skip)
   have H' := am_ H; clear H; go_wp2; go_meet
   case rel => exact ⟨_, (decide (a0 ≤ 57343)), rfs_, (by first | exact H' | (subst_vars; exact H')), ⟨ole_⟩, ⟨bel_⟩⟩
  rw [if_neg c7] at H; have c7b0 : decide (55296 ≤ a0) = false := df_ c7; clear c7; (first | rw [c7b0] | (simp only [i64_w, i32_w]; rw [c7b0]) | skip)
  have H' := am_ H; clear H; go_wp2; go_meet
  case rel => exact ⟨_, (false), rfs_, (by first | exact H' | (subst_vars; exact H')), ⟨ole_⟩, ⟨bel_⟩⟩
 clear HC6; try clear c2
 try clear c2b0
 try clear c2b1
 obtain ⟨kq, x6_5, rfl, HA, HJ5, HB⟩ := hcut
 cases kq with
 | zero => exact absurd HA.out (by simp [token_character.j0])
 | succ kj5 =>
  have H := HA.out; clear HA; simp only [token_character.j0] at H; by_cases c8 : x6_5 = true
  ·subst c8; rw [if_pos rfl] at H; replace H := bs_ H; obtain ⟨t159, A90, H⟩ := H; try dsimp only at H
   have A9 := am_ A90; clear A90; obtain rfl := si_ H; go_wp2_with (first | ((with_reducible refine gate_callee (f := 136) rfl ?_); refine goesL_ (some 17) rfl rfl Tryd.func136 (by kernel_rfl) rfl #[.slice none 0 0, .int .i32 65533] rfl goa_ ?_; (refine (utf8_AppendRune.calls kj5 (fun k_ => some k_ = (.slice none 0 0 : Value).ownBlock) (.slice none 0 0) ([] : List Int) 65533 t159 w _ ?side1 ?side2 A9.out).mono ?_); (case side1 => repeat (first | (with_reducible first | exact HB.out | apply below_alloc | apply pw_below_drewN | apply below_drew1) | exact HB.out)); (case side2 => exact Kd.R_nil _ _ _ _ _); rintro e w10 ⟨v160, rfl, ho0, hb, hkp⟩; refine ⟨_, rfl, ?_⟩; have HO161 := am_ (Kd.R_mono (ok' := fun k_ => True) ho0 (fun k_ hk_ => trivial)); replace HB := am_ (hb); (try clear hb); (try clear hkp); (try clear ho0); have hcv11 := own_string (P := Tryd.prog) Tryd.underlying63 Tryd.underlying5 Tryd.underlying9 (Kd.own_of_R HO161.out)))
   go_ret
   exact ⟨rsl_, bel_⟩
  replace c8 := Bool.eq_false_iff.mpr c8; subst c8; rw [if_neg (show ¬ (false = true) by decide)] at H; by_cases c12 : a0 > 1114111
  ·rw [if_pos c12] at H; have c12b0 : decide (1114111 < a0) = true := dt_ c12; clear c12; replace H := bs_ H; obtain ⟨t162, A130, H⟩ := H; try dsimp only at H
   have A13 := am_ A130; clear A130; obtain rfl := si_ H; go_wp2_with (first | ((with_reducible refine gate_callee (f := 136) rfl ?_); refine goesL_ (some 17) rfl rfl Tryd.func136 (by kernel_rfl) rfl #[.slice none 0 0, .int .i32 65533] rfl goa_ ?_; (refine (utf8_AppendRune.calls kj5 (fun k_ => some k_ = (.slice none 0 0 : Value).ownBlock) (.slice none 0 0) ([] : List Int) 65533 t162 w _ ?side1 ?side2 A13.out).mono ?_); (case side1 => repeat (first | (with_reducible first | exact HB.out | apply below_alloc | apply pw_below_drewN | apply below_drew1) | exact HB.out)); (case side2 => exact Kd.R_nil _ _ _ _ _); rintro e w14 ⟨v163, rfl, ho0, hb, hkp⟩; refine ⟨_, rfl, ?_⟩; have HO164 := am_ (Kd.R_mono (ok' := fun k_ => True) ho0 (fun k_ hk_ => trivial)); replace HB := am_ (hb); (try clear hb); (try clear hkp); (try clear ho0); have hcv15 := own_string (P := Tryd.prog) Tryd.underlying63 Tryd.underlying5 Tryd.underlying9 (Kd.own_of_R HO164.out)))
   go_ret
   exact ⟨rsl_, bel_⟩
  rw [if_neg c12] at H; have c12b0 : decide (1114111 < a0) = false := df_ c12; clear c12; replace H := bs_ H; obtain ⟨t165, A160, H⟩ := H; try dsimp only at H
  have A16 := am_ A160; clear A160; obtain rfl := si_ H; go_wp2_with (first | ((with_reducible refine gate_callee (f := 136) rfl ?_); refine goesL_ (some 17) rfl rfl Tryd.func136 (by kernel_rfl) rfl #[.slice none 0 0, .int .i32 (wrap32 (a0))] rfl goa_ ?_; (refine (utf8_AppendRune.calls kj5 (fun k_ => some k_ = (.slice none 0 0 : Value).ownBlock) (.slice none 0 0) ([] : List Int) (wrap32 (a0)) t165 w _ ?side1 ?side2 A16.out).mono ?_); (case side1 => repeat (first | (with_reducible first | exact HB.out | apply below_alloc | apply pw_below_drewN | apply below_drew1) | exact HB.out)); (case side2 => exact Kd.R_nil _ _ _ _ _); rintro e w17 ⟨v166, rfl, ho0, hb, hkp⟩; refine ⟨_, rfl, ?_⟩; have HO167 := am_ (Kd.R_mono (ok' := fun k_ => True) ho0 (fun k_ hk_ => trivial)); replace HB := am_ (hb); (try clear hb); (try clear hkp); (try clear ho0); have hcv18 := own_string (P := Tryd.prog) Tryd.underlying63 Tryd.underlying5 Tryd.underlying9 (Kd.own_of_R HO167.out)))
  go_ret
  exact ⟨rsl_, bel_⟩

end Go.Proofs.YtofdhdafabmhmaaDoor.PLf4
end
