/- AreaTellsCardSaid, part 5 of 15: contracts of the program's functions, the words that they use, and the plain laws on what they compute. Conditions: none beyond what the statements say. -/
import Derived.Test.YtofdhdafabmhmaaGreatDoorKAt1
import Derived.Test.YtofdhdafabmhmaaGreatDoorKAt2
import Derived.Test.YtofdhdafabmhmaaGreatDoorKAt3
import Derived.BigRegion
set_option linter.unusedVariables false
set_option linter.unusedSimpArgs false
section
namespace Go.Proofs.YtofdhdafabmhmaaGreatDoor.PAr
open Go.RowKit Go.Proofs.YtofdhdafabmhmaaGreatDoorW.PrintWords Go.Proofs.YtofdhdafabmhmaaGreatDoorW.PrintLast Go.Proofs.YtofdhdafabmhmaaGreatDoorW.PrintMore
attribute [local go_sem] max2_int min2_int max_two min_two max_three min_three max_four min_four
open Go.Proofs.YtofdhdafabmhmaaGreatDoor.Opn Go.Proofs.YtofdhdafabmhmaaGreatDoor.Giv

/-! ### number_parts: function 123 -/
/-- Where the digits end that begin at a place (d: how many bytes there still are). -/
def number_parts.stopF (s : ByteArray) : Nat → Nat → Nat
 | 0, i => i
 | d + 1, i => if number_digit.f (bt s (i : Nat)) = some true then number_parts.stopF s d (i + 1) else i
def number_parts.stop (s : ByteArray) (i : Nat) : Nat := number_parts.stopF s (s.size - i) i
theorem number_parts.stopF_bd (s : ByteArray) : ∀ d i : Nat, i + d ≤ s.size → i ≤ number_parts.stopF s d i ∧ number_parts.stopF s d i ≤ i + d
 | 0, i, _ => ⟨Nat.le_refl _, Nat.le_refl _⟩
 | d + 1, i, h => by
  simp only [number_parts.stopF]
  split
  ·have := number_parts.stopF_bd s d (i + 1) (by omega)
   omega
  ·omega
theorem number_parts.stop_bd (s : ByteArray) (i : Nat) (h : i ≤ s.size) : i ≤ number_parts.stop s i ∧ number_parts.stop s i ≤ s.size := by
 have := number_parts.stopF_bd s (s.size - i) i (by omega)
 unfold number_parts.stop
 omega
theorem number_parts.stop_next (s : ByteArray) (i : Nat) (h : i < s.size) (hd : number_digit.f (bt s (i : Nat)) = some true) : number_parts.stop s i = number_parts.stop s (i + 1) := by
 unfold number_parts.stop
 rw [show s.size - i = (s.size - (i + 1)) + 1 by omega]
 simp only [number_parts.stopF]
 rw [if_pos hd]
theorem number_parts.stop_here (s : ByteArray) (i : Nat) (h : i < s.size) (hd : number_digit.f (bt s (i : Nat)) ≠ some true) : number_parts.stop s i = i := by
 unfold number_parts.stop
 rw [show s.size - i = (s.size - (i + 1)) + 1 by omega]
 simp only [number_parts.stopF]
 rw [if_neg hd]
theorem number_parts.stop_end (s : ByteArray) : number_parts.stop s s.size = s.size := by
 unfold number_parts.stop
 rw [Nat.sub_self]
 rfl
theorem number_parts.digit_is (c : Int) : ∃ b, number_digit.f c = some b := by
 unfold number_digit.f
 split <;> exact ⟨_, rfl⟩
def number_parts.isSign (s : ByteArray) (i : Nat) : Bool := decide (i < s.size) && (bt s (i : Nat) == 43 || bt s (i : Nat) == 45)
def number_parts.sgn (s : ByteArray) (i : Nat) : Nat := if number_parts.isSign s i = true then i + 1 else i
def number_parts.neg (s : ByteArray) (i : Nat) : Bool := number_parts.isSign s i && bt s (i : Nat) == 45
def number_parts.isDot (s : ByteArray) (i : Nat) : Bool := decide (i < s.size) && bt s (i : Nat) == 46
def number_parts.isE (s : ByteArray) (i : Nat) : Bool := decide (i < s.size) && (bt s (i : Nat) == 101 || bt s (i : Nat) == 69)
/-- Where the whole digits begin and end; where those behind the point end; where the exponent's digits begin and end. -/
def number_parts.w0 (s : ByteArray) : Nat := number_parts.sgn s 0
def number_parts.w1 (s : ByteArray) : Nat := number_parts.stop s (number_parts.w0 s)
def number_parts.p1 (s : ByteArray) : Nat := if number_parts.isDot s (number_parts.w1 s) = true then number_parts.stop s (number_parts.w1 s + 1) else number_parts.w1 s
def number_parts.part (s : ByteArray) : ByteArray := if number_parts.isDot s (number_parts.w1 s) = true then s.extract (number_parts.w1 s + 1) (number_parts.p1 s) else ⟨#[]⟩
def number_parts.at2 (s : ByteArray) : Nat := if number_parts.isDot s (number_parts.w1 s) = true then (if number_parts.p1 s = number_parts.w1 s + 1 then number_parts.w1 s else number_parts.p1 s) else number_parts.w1 s
def number_parts.x0 (s : ByteArray) : Nat := number_parts.sgn s (number_parts.at2 s + 1)
def number_parts.x1 (s : ByteArray) : Nat := number_parts.stop s (number_parts.x0 s)
def number_parts.hasE (s : ByteArray) : Bool := number_parts.isE s (number_parts.at2 s) && decide (number_parts.x0 s < number_parts.x1 s)
def number_parts.f (s : ByteArray) : Option (Bool × ByteArray × ByteArray × ByteArray × Int) :=
 if s.size ≤ 140737488351232 then
  (if number_parts.w1 s = number_parts.w0 s ∧ number_parts.at2 s = number_parts.w1 s then some (false, ⟨#[]⟩, ⟨#[]⟩, ⟨#[]⟩, 0)
  else some (number_parts.neg s 0, s.extract (number_parts.w0 s) (number_parts.w1 s), number_parts.part s,
   if number_parts.hasE s = true then s.extract (number_parts.at2 s + 1) (number_parts.x1 s) else ⟨#[]⟩,
   if number_parts.hasE s = true then (number_parts.x1 s : Int) else (number_parts.at2 s : Int)))
 else none

/-- The text's block, and the block of the place. -/
structure number_parts.Two (W : World) (gs ga : Nat) (s : ByteArray) (i : Nat) : Prop where
 hs : W.heap[gs]? = some (.cells #[.string s] 9 (0, 0))
 ha : W.heap[ga]? = some (.cells #[.int .i64 i] 3 (0, 0))
 lt : gs < ga
theorem number_parts.Two.set {W : World} {gs ga : Nat} {s : ByteArray} {i : Nat} (h : number_parts.Two W gs ga s i) (j : Nat) : number_parts.Two (W.setCell ⟨ga, 0, none⟩ (.int .i64 j)) gs ga s j :=
 ⟨blk_far h.hs (show gs ≠ ga from Nat.ne_of_lt h.lt) _, blk_put h.ha 0 _ rfl, h.lt⟩
theorem number_parts.Two.drewN {W : World} {gs ga : Nat} {s : ByteArray} {i : Nat} (h : number_parts.Two W gs ga s i) (n : Nat) : number_parts.Two (W.drewN n) gs ga s i := ⟨h.hs, h.ha, h.lt⟩
theorem number_parts.lower {g : Nat} {w W : World} (h : Below g w W) (v : Value) : Below g w (W.setCell ⟨g, 0, none⟩ v) := h.trans ⟨rfl, rfl, rfl, by simp [World.setCell], fun k hk => Below.heap_setCell W _ v k (show k ≠ g by omega)⟩
theorem number_parts.belowN {B : Nat} {a w : World} (h : Below B a w) (n : Nat) : Below B a (w.drewN n) := h.trans ⟨rfl, rfl, rfl, Nat.le_refl _, fun _ _ => rfl⟩
theorem number_parts.next {i n : Nat} (h1 : i < n) (hs : n ≤ 140737488351232) : wrap64 ((i : Int) + 1) = ((i + 1 : Nat) : Int) := by
 unfold wrap64
 omega

set_option maxHeartbeats 8000000 in
set_option maxRecDepth 100000 in
/-- parts' 'sign'. -/
theorem number_parts.sign_calls (s : ByteArray) (gs ga i : Nat) (w : World) (hs : s.size ≤ 140737488351232) (hi : i ≤ s.size) (h2 : number_parts.Two w gs ga s i) :
  Calls Tryz.prog 145 #[.pointer (some ⟨ga, 0, none⟩), .pointer (some ⟨gs, 0, none⟩)] w fun e w' => e = .returned (.bool (number_parts.neg s i)) ∧ Below ga w w' ∧ number_parts.Two w' gs ga s (number_parts.sgn s i) := by
 have H2 := Aside0.mk h2
 have HN := Aside0.mk hs
 have hcs : w.cell? ⟨gs, 0, none⟩ = some (.string s) := (blk_cell h2.hs 0).trans rfl
 have hca : w.cell? ⟨ga, 0, none⟩ = some (.int .i64 i) := (blk_cell h2.ha 0).trans rfl
 have hfa := blk_frozen h2.ha 0
 have hne : gs ≠ ga := Nat.ne_of_lt h2.lt
 have hne2 : ga ≠ gs := Nat.ne_of_gt h2.lt
 clear h2
 by_cases hlt : i < s.size
 ·have q0 : (0 ≤ (i : Int)) = True := eq_true (by omega)
  have q1 : ((i : Int) < (s.size : Int)) = True := eq_true (by omega)
  have q2 : decide ((i : Int) < (s.size : Int)) = true := decide_eq_true (by omega)
  have q3 : decide (i < s.size) = true := decide_eq_true hlt
  have q4 : (i < s.size) = True := eq_true hlt
  have hx : ∀ h : i < s.size, ((s[i].toNat : Nat) : Int) = bt s (i : Nat) := fun h => bt_at s (i : Int) (by simpa using h)
  have hw : wrap64 ((i : Int) + 1) = ((i + 1 : Nat) : Int) := number_parts.next hlt hs
  have hw2 : wrap64 (i : Int) = (i : Int) := by unfold wrap64; omega
  have HLT := Aside0.mk hlt
  have hb : ∃ b1 b2 : Bool, (bt s (i : Nat) == 43) = b1 ∧ (bt s (i : Nat) == 45) = b2 ∧ number_parts.isSign s i = (b1 || b2) := ⟨_, _, rfl, rfl, by unfold number_parts.isSign; rw [decide_eq_true hlt]; rfl⟩
  obtain ⟨b1, b2, p1, p2, hS⟩ := hb
  have hE : number_parts.neg s i = ((b1 || b2) && b2) := by unfold number_parts.neg; rw [hS, p2]
  have hG : number_parts.sgn s i = if (b1 || b2) = true then i + 1 else i := by unfold number_parts.sgn; rw [hS]
  rw [hE, hG]
  clear hE hG hS hlt hi hs
  have HP : (b1 = true ∧ b2 = true) ∨ (b1 = true ∧ b2 = false) ∨ (b1 = false ∧ b2 = true) ∨ (b1 = false ∧ b2 = false) := by cases b1 <;> cases b2 <;> simp
  rcases HP with ⟨rfl, rfl⟩ | ⟨rfl, rfl⟩ | ⟨rfl, rfl⟩ | ⟨rfl, rfl⟩
  all_goals
   go_enter Tryz.func145, Tryz.ntmps145
   go_wp2
   go_ret
   refine ⟨rfl, by repeat (first | exact Below.refl _ _ | apply number_parts.belowN | apply number_parts.lower), ?_⟩
  all_goals
   repeat (first | exact H2.out | apply number_parts.Two.drewN | apply number_parts.Two.set)
 ·have hie : i = s.size := by omega
  subst hie
  have hE : number_parts.neg s s.size = false := by unfold number_parts.neg number_parts.isSign; rw [decide_eq_false hlt]; rfl
  have hG : number_parts.sgn s s.size = s.size := by unfold number_parts.sgn number_parts.isSign; rw [decide_eq_false hlt]; rfl
  rw [hE, hG]
  have q2 : decide ((s.size : Int) < (s.size : Int)) = false := decide_eq_false (by omega)
  have q3 : decide (s.size < s.size) = false := decide_eq_false (by omega)
  clear hE hG hlt hi
  go_enter Tryz.func145, Tryz.ntmps145
  go_wp2
  go_ret
  exact ⟨rfl, by repeat (first | exact Below.refl _ _ | apply number_parts.belowN | apply number_parts.lower), by repeat (first | exact H2.out | apply number_parts.Two.drewN | apply number_parts.Two.set)⟩

theorem number_parts.less {W W' : World} {gs ga j : Nat} {s : ByteArray} (h : number_parts.Two W gs ga s j) (h' : number_parts.Two W' gs ga s (j + 1)) (hj : j < s.size) : s.size - (intOf ((W'.cell? ⟨ga, 0, none⟩).getD undef)).toNat < s.size - (intOf ((W.cell? ⟨ga, 0, none⟩).getD undef)).toNat := by
 rw [show W.cell? ⟨ga, 0, none⟩ = some (.int .i64 j) from (blk_cell h.ha 0).trans rfl, show W'.cell? ⟨ga, 0, none⟩ = some (.int .i64 (j + 1 : Nat)) from (blk_cell h'.ha 0).trans rfl]
 show s.size - (((j + 1 : Nat) : Int)).toNat < s.size - ((j : Int)).toNat
 rw [Int.toNat_natCast, Int.toNat_natCast]
 omega
set_option maxHeartbeats 8000000 in
set_option maxRecDepth 100000 in
/-- parts' 'digits'. -/
theorem number_parts.digits_calls (s : ByteArray) (gs ga i : Nat) (w : World) (hs : s.size ≤ 140737488351232) (hi : i ≤ s.size) (h2 : number_parts.Two w gs ga s i) :
  Calls Tryz.prog 146 #[.pointer (some ⟨ga, 0, none⟩), .pointer (some ⟨gs, 0, none⟩)] w fun e w' => e = .returned (.string (s.extract i (number_parts.stop s i))) ∧ Below ga w w' ∧ number_parts.Two w' gs ga s (number_parts.stop s i) := by
 have HN := Aside0.mk hs
 have HI := Aside0.mk hi
 have H2 := Aside0.mk h2
 have hca : w.cell? ⟨ga, 0, none⟩ = some (.int .i64 i) := (blk_cell h2.ha 0).trans rfl
 clear h2 hs hi
 go_enter Tryz.func146, Tryz.ntmps146
 go_wp2
 go_loopw [] (fun wr => ∃ (j : Nat), Aside0 (i ≤ j ∧ j ≤ s.size ∧ number_parts.stop s i = number_parts.stop s j) ∧ Aside0 (number_parts.Two wr gs ga s j) ∧ Aside0 (Below ga w wr)) (fun wr => s.size - (intOf ((wr.cell? ⟨ga, 0, none⟩).getD undef)).toNat)
 case atStart => exact ⟨i, ⟨Nat.le_refl _, HI.out, rfl⟩, H2, ⟨Below.refl _ _⟩⟩
 case round =>
  clear hca
  obtain ⟨j, HJ, HT, HB⟩ := hrel
  have hcs : wr.cell? ⟨gs, 0, none⟩ = some (.string s) := (blk_cell HT.out.hs 0).trans rfl
  have hca : wr.cell? ⟨ga, 0, none⟩ = some (.int .i64 j) := (blk_cell HT.out.ha 0).trans rfl
  have hfa := blk_frozen HT.out.ha 0
  have hne : gs ≠ ga := Nat.ne_of_lt HT.out.lt
  have hne2 : ga ≠ gs := Nat.ne_of_gt HT.out.lt
  by_cases hlt : j < s.size
  ·have q0 : (0 ≤ (j : Int)) = True := eq_true (by omega)
   have q1 : ((j : Int) < (s.size : Int)) = True := eq_true (by omega)
   have q2 : decide ((j : Int) < (s.size : Int)) = true := decide_eq_true (by omega)
   have q3 : decide (j < s.size) = true := decide_eq_true hlt
   have q4 : (j < s.size) = True := eq_true hlt
   have hx : ∀ h : j < s.size, ((s[j].toNat : Nat) : Int) = bt s (j : Nat) := fun h => bt_at s (j : Int) (by simpa using h)
   have hw : wrap64 ((j : Int) + 1) = ((j + 1 : Nat) : Int) := number_parts.next hlt HN.out
   have HLT := Aside0.mk hlt
   obtain ⟨b, hb⟩ := number_parts.digit_is (bt s (j : Nat))
   have HD := Aside0.mk hb
   clear hb hlt
   cases b with
   | true =>
    go_wp2_with (first | (go_at_call 147; refine (number_digit.calls _ _ _ HD.out).mono ?_; rintro e w5 ⟨rfl, ⟨nd, rfl⟩⟩))
    go_roundw
    case rel => exact ⟨j + 1, ⟨by have := HJ.out.1; omega, HLT.out, HJ.out.2.2.trans (number_parts.stop_next s j HLT.out HD.out)⟩, ⟨by repeat (first | exact HT.out | apply number_parts.Two.drewN | apply number_parts.Two.set)⟩, ⟨by repeat (first | exact HB.out | apply number_parts.belowN | apply number_parts.lower)⟩⟩
    case measure => exact number_parts.less HT.out (by repeat (first | exact HT.out | apply number_parts.Two.drewN | apply number_parts.Two.set)) HLT.out
   | false =>
    have hst := number_parts.stop_here s j HLT.out (by rw [HD.out]; simp)
    have hE : number_parts.stop s i = j := HJ.out.2.2.trans hst
    have e1 : (0 ≤ (i : Int)) = True := eq_true (by omega)
    have e2 : ((i : Int) ≤ (j : Int)) = True := eq_true (by have := HJ.out.1; omega)
    have e3 : ((j : Int) ≤ (s.size : Int)) = True := eq_true (by have := HJ.out.2.1; omega)
    have e4 : (i ≤ j) = True := eq_true HJ.out.1
    have e5 : (j ≤ s.size) = True := eq_true HJ.out.2.1
    have e6 : decide (i ≤ j) = true := decide_eq_true HJ.out.1
    have e7 : decide (j ≤ s.size) = true := decide_eq_true HJ.out.2.1
    have HE := Aside0.mk hE
    clear hst hE
    go_wp2_with (first | (go_at_call 147; refine (number_digit.calls _ _ _ HD.out).mono ?_; rintro e w5 ⟨rfl, ⟨nd, rfl⟩⟩))
    go_ret
    rw [HE.out]
    exact ⟨rfl, by repeat (first | exact HB.out | apply number_parts.belowN | apply number_parts.lower), by repeat (first | exact HT.out | apply number_parts.Two.drewN | apply number_parts.Two.set)⟩
  ·have hie : j = s.size := by have := HJ.out.2.1; omega
   subst hie
   have hE : number_parts.stop s i = s.size := HJ.out.2.2.trans (number_parts.stop_end s)
   have q2 : decide ((s.size : Int) < (s.size : Int)) = false := decide_eq_false (by omega)
   have q3 : decide (s.size < s.size) = false := decide_eq_false (by omega)
   have e1 : (0 ≤ (i : Int)) = True := eq_true (by omega)
   have e2 : ((i : Int) ≤ (s.size : Int)) = True := eq_true (by have := HJ.out.1; omega)
   have e4 : (i ≤ s.size) = True := eq_true HJ.out.1
   have e6 : decide (i ≤ s.size) = true := decide_eq_true HJ.out.1
   have HE := Aside0.mk hE
   clear hE hlt
   go_wp2
   go_ret
   rw [HE.out]
   exact ⟨rfl, by repeat (first | exact HB.out | apply number_parts.belowN | apply number_parts.lower), by repeat (first | exact HT.out | apply number_parts.Two.drewN | apply number_parts.Two.set)⟩

/-- The three blocks: the text's, the parts', the place's. -/
structure number_parts.St (w W : World) (gs gt ga : Nat) (s : ByteArray) (c : Array Value) (i : Nat) : Prop where
 b : Below w.heap.size w W
 two : number_parts.Two W gs ga s i
 ht : W.heap[gt]? = some (.cells c 134 (0, 0))
 lo : w.heap.size ≤ gs
 o1 : gs < gt
 o2 : gt < ga
theorem number_parts.St.drewN {w W : World} {gs gt ga : Nat} {s : ByteArray} {c : Array Value} {i : Nat} (h : number_parts.St w W gs gt ga s c i) (n : Nat) : number_parts.St w (W.drewN n) gs gt ga s c i :=
 ⟨number_parts.belowN h.b n, h.two.drewN n, h.ht, h.lo, h.o1, h.o2⟩
theorem number_parts.St.setA {w W : World} {gs gt ga : Nat} {s : ByteArray} {c : Array Value} {i : Nat} (h : number_parts.St w W gs gt ga s c i) (j : Nat) : number_parts.St w (W.setCell ⟨ga, 0, none⟩ (.int .i64 j)) gs gt ga s c j :=
 ⟨below_set h.b (Nat.le_trans h.lo (Nat.le_of_lt (Nat.lt_trans h.o1 h.o2))), h.two.set j, blk_far h.ht (show gt ≠ ga from Nat.ne_of_lt h.o2) _, h.lo, h.o1, h.o2⟩
theorem number_parts.St.setT {w W : World} {gs gt ga : Nat} {s : ByteArray} {c : Array Value} {i : Nat} (h : number_parts.St w W gs gt ga s c i) (k : Nat) (v : Value) (c' : Array Value) (e : c.setIfInBounds k v = c') : number_parts.St w (W.setCell ⟨gt, k, none⟩ v) gs gt ga s c' i :=
 ⟨below_set h.b (Nat.le_trans h.lo (Nat.le_of_lt h.o1)), ⟨blk_far h.two.hs (show gs ≠ gt from Nat.ne_of_lt h.o1) _, blk_far h.two.ha (show ga ≠ gt from Nat.ne_of_gt h.o2) _, h.two.lt⟩, blk_put h.ht k v e, h.lo, h.o1, h.o2⟩
theorem number_parts.St.call {w W W' : World} {gs gt ga : Nat} {s : ByteArray} {c : Array Value} {i j : Nat} (h : number_parts.St w W gs gt ga s c i) (hb : Below ga W W') (h2 : number_parts.Two W' gs ga s j) : number_parts.St w W' gs gt ga s c j :=
 ⟨h.b.trans ⟨hb.os, hb.tape, hb.output, hb.size, fun k hk => hb.block k (by have := h.lo; have := h.o1; have := h.o2; omega)⟩, h2, (hb.block gt h.o2).trans h.ht, h.lo, h.o1, h.o2⟩
theorem number_parts.sign_st {w W : World} {gs gt ga : Nat} {s : ByteArray} {c : Array Value} {i : Nat} (h : number_parts.St w W gs gt ga s c i) (j : Nat) (b : Bool) (hs : s.size ≤ 140737488351232) (hi : i ≤ s.size) (hj : number_parts.sgn s i = j) (hb : number_parts.neg s i = b) :
  Calls Tryz.prog 145 #[.pointer (some ⟨ga, 0, none⟩), .pointer (some ⟨gs, 0, none⟩)] W fun e w' => e = .returned (.bool b) ∧ number_parts.St w w' gs gt ga s c j :=
 (number_parts.sign_calls s gs ga i W hs hi h.two).mono fun e w' ⟨h1, h2, h3⟩ => ⟨hb ▸ h1, h.call h2 (hj ▸ h3)⟩
theorem number_parts.digits_st {w W : World} {gs gt ga : Nat} {s : ByteArray} {c : Array Value} {i : Nat} (h : number_parts.St w W gs gt ga s c i) (j : Nat) (r : ByteArray) (hs : s.size ≤ 140737488351232) (hi : i ≤ s.size) (hj : number_parts.stop s i = j) (hr : s.extract i j = r) :
  Calls Tryz.prog 146 #[.pointer (some ⟨ga, 0, none⟩), .pointer (some ⟨gs, 0, none⟩)] W fun e w' => e = .returned (.string r) ∧ number_parts.St w w' gs gt ga s c j :=
 (number_parts.digits_calls s gs ga i W hs hi h.two).mono fun e w' ⟨h1, h2, h3⟩ => ⟨hr ▸ hj ▸ h1, h.call h2 (hj ▸ h3)⟩

/-- What is known of a place within the text, and of one at its end. -/
theorem number_parts.at_in {s : ByteArray} {i : Nat} (h : i < s.size) : (0 ≤ (i : Int)) = True ∧ ((i : Int) < (s.size : Int)) = True ∧ decide ((i : Int) < (s.size : Int)) = true ∧ decide (i < s.size) = true ∧ (i < s.size) = True ∧ (∀ h : i < s.size, ((s[i].toNat : Nat) : Int) = bt s (i : Nat)) :=
 ⟨eq_true (by omega), eq_true (by omega), decide_eq_true (by omega), decide_eq_true h, eq_true h, fun h => bt_at s (i : Int) (by simpa using h)⟩
theorem number_parts.at_out {s : ByteArray} {i : Nat} (h : ¬ i < s.size) : decide ((i : Int) < (s.size : Int)) = false ∧ decide (i < s.size) = false := ⟨decide_eq_false (by omega), decide_eq_false h⟩
theorem number_parts.empty_is (r : ByteArray) : (r.toList == ([] : List UInt8)) = decide (r.size = 0) := by
 rw [ByteArray.toList_eq]
 by_cases h : r.size = 0
 ·rw [decide_eq_true h, Array.eq_empty_of_size_eq_zero (xs := r.data) h]
  rfl
 ·rw [decide_eq_false h, beq_eq_false_iff_ne]
  intro e
  apply h
  have := congrArg List.length e
  simpa using this
theorem number_parts.cut_empty {s : ByteArray} {i j : Nat} (h1 : i ≤ j) (h2 : j ≤ s.size) : ((s.extract i j).toList == ([] : List UInt8)) = decide (i = j) := by
 rw [number_parts.empty_is, ByteArray.size_extract]
 congr 1
 exact propext ⟨fun h => by omega, fun h => by omega⟩

/-- How it goes behind the whole digits (p: the part's digits; a2: the place behind them). -/
def number_parts.DotWay (s : ByteArray) (a1 b1 p1 a2 : Nat) (p : ByteArray) : Prop :=
 (¬ a1 < s.size ∧ p = ⟨#[]⟩ ∧ a2 = a1) ∨ (a1 < s.size ∧ (bt s (a1 : Nat) == 46) = false ∧ p = ⟨#[]⟩ ∧ a2 = a1) ∨
  (a1 < s.size ∧ (bt s (a1 : Nat) == 46) = true ∧ p1 = b1 ∧ (p.toList == ([] : List UInt8)) = true ∧ p = s.extract b1 p1 ∧ a2 = a1) ∨ (a1 < s.size ∧ (bt s (a1 : Nat) == 46) = true ∧ b1 < p1 ∧ (p.toList == ([] : List UInt8)) = false ∧ p = s.extract b1 p1 ∧ a2 = p1)
theorem number_parts.sgn_bd (s : ByteArray) (i : Nat) (h : i ≤ s.size) : i ≤ number_parts.sgn s i ∧ number_parts.sgn s i ≤ s.size ∧ number_parts.sgn s i ≤ i + 1 := by
 unfold number_parts.sgn
 split
 ·rename_i h2
  unfold number_parts.isSign at h2
  have := of_decide_eq_true (Bool.and_eq_true_iff.1 h2).1
  omega
 ·omega
theorem number_parts.dot_way (s : ByteArray) (h : number_parts.w1 s ≤ s.size) : number_parts.DotWay s (number_parts.w1 s) (number_parts.w1 s + 1) (number_parts.stop s (number_parts.w1 s + 1)) (number_parts.at2 s) (number_parts.part s) := by
 unfold number_parts.DotWay number_parts.at2 number_parts.part number_parts.p1
 cases hd : number_parts.isDot s (number_parts.w1 s)
 ·rw [if_neg (by decide), if_neg (by decide)]
  unfold number_parts.isDot at hd
  by_cases hl : number_parts.w1 s < s.size
  ·rw [decide_eq_true hl] at hd
   exact .inr (.inl ⟨hl, hd, rfl, rfl⟩)
  ·exact .inl ⟨hl, rfl, rfl⟩
 ·rw [if_pos rfl, if_pos rfl]
  unfold number_parts.isDot at hd
  obtain ⟨h1, h2⟩ := Bool.and_eq_true_iff.1 hd
  have h1 := of_decide_eq_true h1
  have h3 := number_parts.stop_bd s (number_parts.w1 s + 1) h1
  rw [if_pos rfl]
  by_cases he : number_parts.stop s (number_parts.w1 s + 1) = number_parts.w1 s + 1
  ·rw [if_pos he]
   exact .inr (.inr (.inl ⟨h1, h2, he, by rw [number_parts.cut_empty h3.1 h3.2, decide_eq_true he.symm], rfl, rfl⟩))
  ·rw [if_neg he]
   exact .inr (.inr (.inr ⟨h1, h2, by omega, by rw [number_parts.cut_empty h3.1 h3.2, decide_eq_false (fun e => he e.symm)], rfl, rfl⟩))

/-- How it goes behind the digits (x: the exponent's text; en: where the number ends). -/
def number_parts.ExpWay (s : ByteArray) (a2 b2 x0 x1 : Nat) (y x : ByteArray) (en : Nat) : Prop :=
 (¬ a2 < s.size ∧ x = ⟨#[]⟩ ∧ a2 = en) ∨ (a2 < s.size ∧ (bt s (a2 : Nat) == 101) = false ∧ (bt s (a2 : Nat) == 69) = false ∧ x = ⟨#[]⟩ ∧ a2 = en) ∨
  (a2 < s.size ∧ ((bt s (a2 : Nat) == 101) = true ∨ (bt s (a2 : Nat) == 101) = false ∧ (bt s (a2 : Nat) == 69) = true) ∧ (y.toList == ([] : List UInt8)) = true ∧ x = ⟨#[]⟩ ∧ a2 = en) ∨
  (a2 < s.size ∧ ((bt s (a2 : Nat) == 101) = true ∨ (bt s (a2 : Nat) == 101) = false ∧ (bt s (a2 : Nat) == 69) = true) ∧ (y.toList == ([] : List UInt8)) = false ∧ x = s.extract b2 x1 ∧ x1 = en)
theorem number_parts.exp_way (s : ByteArray) (h : number_parts.at2 s ≤ s.size) : number_parts.ExpWay s (number_parts.at2 s) (number_parts.at2 s + 1) (number_parts.x0 s) (number_parts.x1 s) (s.extract (number_parts.x0 s) (number_parts.x1 s))
  (if number_parts.hasE s = true then s.extract (number_parts.at2 s + 1) (number_parts.x1 s) else ⟨#[]⟩) (if number_parts.hasE s = true then number_parts.x1 s else number_parts.at2 s) := by
 unfold number_parts.ExpWay number_parts.hasE
 by_cases hl : number_parts.at2 s < s.size
 ·have hx0 := number_parts.sgn_bd s (number_parts.at2 s + 1) hl
  have hx1 := number_parts.stop_bd s (number_parts.x0 s) hx0.2.1
  have hem := number_parts.cut_empty (s := s) hx1.1 hx1.2
  cases hE : number_parts.isE s (number_parts.at2 s)
  ·unfold number_parts.isE at hE
   rw [decide_eq_true hl] at hE
   have := Bool.or_eq_false_iff.1 hE
   exact .inr (.inl ⟨hl, this.1, this.2, rfl, rfl⟩)
  ·unfold number_parts.isE at hE
   rw [decide_eq_true hl] at hE
   have h3 : (bt s (number_parts.at2 s : Nat) == 101) = true ∨ (bt s (number_parts.at2 s : Nat) == 101) = false ∧ (bt s (number_parts.at2 s : Nat) == 69) = true := by
    cases h4 : bt s (number_parts.at2 s : Nat) == 101
    ·rw [h4] at hE
     exact .inr ⟨rfl, hE⟩
    ·exact .inl rfl
   by_cases h5 : number_parts.x0 s < number_parts.x1 s
   ·rw [decide_eq_true h5]
    exact .inr (.inr (.inr ⟨hl, h3, by rw [show number_parts.x1 s = number_parts.stop s (number_parts.x0 s) from rfl] at h5 ⊢; rw [hem, decide_eq_false (by omega)], rfl, rfl⟩))
   ·rw [decide_eq_false h5]
    exact .inr (.inr (.inl ⟨hl, h3, by rw [show number_parts.x1 s = number_parts.stop s (number_parts.x0 s) from rfl] at h5 ⊢; rw [hem, decide_eq_true (by have := hx1.1; omega)], rfl, rfl⟩))
 ·have : number_parts.isE s (number_parts.at2 s) = false := by unfold number_parts.isE; rw [decide_eq_false hl]; rfl
  rw [this]
  exact .inl ⟨hl, rfl, rfl⟩

theorem number_parts.wr1 {i n : Nat} (h : i ≤ n) (hs : n ≤ 140737488351232) : wrap64 ((i : Int) + 1) = ((i + 1 : Nat) : Int) := by
 unfold wrap64
 omega
theorem number_parts.wr2 {i n : Nat} (h : i ≤ n) (hs : n ≤ 140737488351232) : wrap64 (((i + 1 : Nat) : Int) - 1) = (i : Int) := by
 unfold wrap64
 omega
theorem number_parts.St.drew {w W : World} {gs gt ga : Nat} {s : ByteArray} {c : Array Value} {i : Nat} (h : number_parts.St w W gs gt ga s c i) : number_parts.St w W.drew gs gt ga s c i :=
 ⟨below_drew1 h.b, ⟨blk_drew h.two.hs, blk_drew h.two.ha, h.two.lt⟩, blk_drew h.ht, h.lo, h.o1, h.o2⟩
theorem number_parts.St.setA0 {w W : World} {gs gt ga : Nat} {s : ByteArray} {c : Array Value} {i : Nat} (h : number_parts.St w W gs gt ga s c i) : number_parts.St w (W.setCell ⟨ga, 0, none⟩ (.int .i64 0)) gs gt ga s c 0 := h.setA 0
theorem number_parts.St.start {w w1 w2 w3 : World} {gs gt ga : Nat} {s : ByteArray} {c : Array Value} (k1 : gs = w.heap.size) (k2 : w1.heap[gs]? = some (.cells #[.string s] 9 (0, 0))) (k3 : Below w.heap.size w w1)
  (m1 : gt = w1.heap.size) (m2 : w2.heap[gt]? = some (.cells c 134 (0, 0))) (m3 : Below w1.heap.size w1 w2) (l1 : ga = w2.heap.size) (l2 : w3.heap[ga]? = some (.cells #[.int .i64 0] 3 (0, 0))) (l3 : Below w2.heap.size w2 w3) : number_parts.St w w3 gs gt ga s c 0 := by
 have a1 := blk_lt k2
 have a2 := blk_lt m2
 have a3 := m3.size
 exact ⟨below_step (below_step k3 m3) l3, ⟨blk_below (blk_below k2 m3) l3, l2, by omega⟩, blk_below m2 l3, by omega, by omega, by omega⟩

set_option maxHeartbeats 40000000 in
set_option maxRecDepth 100000 in
theorem number_parts.walk (s sw p y x : ByteArray) (ng q : Bool) (a0 a1 b1 p1 a2 b2 x0 x1 en : Nat) (w : World) (hs : s.size ≤ 140737488351232)
  (h0 : number_parts.sgn s 0 = a0) (hn : number_parts.neg s 0 = ng) (h0b : a0 ≤ s.size) (h1 : number_parts.stop s a0 = a1) (h1b : a1 ≤ s.size) (hsw : s.extract a0 a1 = sw) (hb1 : b1 = a1 + 1)
  (hD : number_parts.DotWay s a1 b1 p1 a2 p) (hp1 : a1 < s.size → number_parts.stop s b1 = p1) (h2b : a2 ≤ s.size) (hb2 : b2 = a2 + 1)
  (hZ : ((sw.toList == ([] : List UInt8)) && (p.toList == ([] : List UInt8))) = false)
  (hE : number_parts.ExpWay s a2 b2 x0 x1 y x en) (hx0 : a2 < s.size → number_parts.sgn s b2 = x0) (hq : number_parts.neg s b2 = q) (hx0b : a2 < s.size → x0 ≤ s.size) (hx1 : a2 < s.size → number_parts.stop s x0 = x1) (hy : s.extract x0 x1 = y) (hx1b : a2 < s.size → b2 ≤ x1 ∧ x1 ≤ s.size) :
  Calls Tryz.prog 123 #[.string s] w fun e w' => e = .returned (.agg #[.bool ng, .string sw, .string p, .string x, .int .i64 en]) ∧ Below w.heap.size w w' := by
 have hu := Tryz.underlying134
 have HB1 : Aside0 (a1 < s.size → b1 ≤ s.size) := ⟨fun h => by omega⟩
 have HB2 : Aside0 (a2 < s.size → b2 ≤ s.size) := ⟨fun h => by omega⟩
 have HN := Aside0.mk hs
 have H0 := Aside0.mk h0
 have HNG := Aside0.mk hn
 have H0b := Aside0.mk h0b
 have H1 := Aside0.mk h1
 have HSW := Aside0.mk hsw
 have HQ := Aside0.mk hq
 have HY := Aside0.mk hy
 have hW1 : wrap64 ((a1 : Int) + 1) = (b1 : Int) := by rw [hb1]; exact number_parts.wr1 h1b hs
 have hW2 : wrap64 ((b1 : Int) - 1) = (a1 : Int) := by rw [hb1]; exact number_parts.wr2 h1b hs
 have hW3 : wrap64 ((a2 : Int) + 1) = (b2 : Int) := by rw [hb2]; exact number_parts.wr1 h2b hs
 have HP1 := Aside0.mk hp1
 have HX0 := Aside0.mk hx0
 have HX0b := Aside0.mk hx0b
 have HX1 := Aside0.mk hx1
 have HX1b := Aside0.mk hx1b
 clear hs h0 hn h0b h1 hsw hq hy hb1 hb2 hp1 hx0 hx0b hx1 hx1b h1b h2b
 have HD : (∃ bw bp : Bool, (sw.toList == ([] : List UInt8)) = bw ∧ (p.toList == ([] : List UInt8)) = bp) := ⟨_, _, rfl, rfl⟩
 obtain ⟨bw, bp, hbw, hbp⟩ := HD
 rw [hbw, hbp] at hZ
 have hbw1 : (sw.toList != ([] : List UInt8)) = !bw := by rw [← hbw]; rfl
 have hbp1 : (p.toList != ([] : List UInt8)) = !bp := by rw [← hbp]; rfl
 obtain ⟨bd, hbd⟩ : ∃ bd : Bool, bd = number_parts.isDot s a1 := ⟨_, rfl⟩
 obtain ⟨be, hbe⟩ : ∃ be : Bool, be = number_parts.isE s a2 := ⟨_, rfl⟩
 have HBD := Aside0.mk hbd
 have HBE := Aside0.mk hbe
 have HD := Aside0.mk hD
 have HE := Aside0.mk hE
 clear hbd hbe hD hE
 go_enter Tryz.func123, Tryz.ntmps123
 go_upto_region 6 with (first | ((with_reducible refine gate_dst (N := 1) rfl ?_); (try (refine gate_guard (by rfl) ?_; dsimp only)); refine box_event ?hg (N := 1) ?hd (cs := #[.string s]) (t := 9) ?hr ?_; (case hd => rfl); (case hg => rfl); (case hr => first | (go_simp; done) | (go_simp; rfl)); intro gs hg w1 hbox hb; have KB1 := Aside0.mk hb; have KS1 := Aside0.mk hbox; have KG1 := Aside0.mk hg; clear hg hbox hb) | ((with_reducible refine gate_dst (N := 2) rfl ?_); (try (refine gate_guard (by rfl) ?_; dsimp only)); refine box_event ?hg (N := 2) ?hd (cs := #[.bool false, .string (⟨#[]⟩ : ByteArray), .string (⟨#[]⟩ : ByteArray), .string (⟨#[]⟩ : ByteArray), .int .i64 0]) (t := 134) ?hr ?_; (case hd => rfl); (case hg => rfl); (case hr => first | (go_simp; done) | (go_simp; rfl)); intro gt hg w2 hbox hb; have KB2 := Aside0.mk hb; have KS2 := Aside0.mk hbox; have KG2 := Aside0.mk hg; clear hg hbox hb) | ((with_reducible refine gate_dst (N := 3) rfl ?_); (try (refine gate_guard (by rfl) ?_; dsimp only)); refine box_event ?hg (N := 3) ?hd (cs := #[.int .i64 0]) (t := 3) ?hr ?_; (case hd => rfl); (case hg => rfl); (case hr => first | (go_simp; done) | (go_simp; rfl)); intro ga hg w3 hbox hb; have KB3 := Aside0.mk hb; have KS3 := Aside0.mk hbox; have KG3 := Aside0.mk hg; clear hg hbox hb; have HP := Aside0.mk (number_parts.St.start KG1.out KS1.out KB1.out KG2.out KS2.out KB2.out KG3.out KS3.out KB3.out); have n1 : gs ≠ gt := Nat.ne_of_lt HP.out.o1; have n2 : gt ≠ gs := Nat.ne_of_gt HP.out.o1; have n3 : gt ≠ ga := Nat.ne_of_lt HP.out.o2; have n4 : ga ≠ gt := Nat.ne_of_gt HP.out.o2; have n5 : gs ≠ ga := Nat.ne_of_lt HP.out.two.lt; have n6 : ga ≠ gs := Nat.ne_of_gt HP.out.two.lt; have hcs : w3.cell? ⟨gs, 0, none⟩ = some (.string s) := (blk_cell HP.out.two.hs 0).trans rfl; have hca : w3.cell? ⟨ga, 0, none⟩ = some (.int .i64 0) := (blk_cell HP.out.two.ha 0).trans rfl; have hfa := blk_frozen HP.out.two.ha 0; have ht0 : w3.cell? ⟨gt, 0, none⟩ = some (.bool false) := (blk_cell HP.out.ht 0).trans rfl; have hf0 := blk_frozen HP.out.ht 0; have ht1 : w3.cell? ⟨gt, 1, none⟩ = some (.string (⟨#[]⟩ : ByteArray)) := (blk_cell HP.out.ht 1).trans rfl; have hf1 := blk_frozen HP.out.ht 1; have ht2 : w3.cell? ⟨gt, 2, none⟩ = some (.string (⟨#[]⟩ : ByteArray)) := (blk_cell HP.out.ht 2).trans rfl; have hf2 := blk_frozen HP.out.ht 2; have ht3 : w3.cell? ⟨gt, 3, none⟩ = some (.string (⟨#[]⟩ : ByteArray)) := (blk_cell HP.out.ht 3).trans rfl; have hf3 := blk_frozen HP.out.ht 3; have ht4 : w3.cell? ⟨gt, 4, none⟩ = some (.int .i64 0) := (blk_cell HP.out.ht 4).trans rfl; have hf4 := blk_frozen HP.out.ht 4) | (go_at_call 145; refine (number_parts.sign_st (w := w) (gt := gt) (c := #[.bool false, .string (⟨#[]⟩ : ByteArray), .string (⟨#[]⟩ : ByteArray), .string (⟨#[]⟩ : ByteArray), .int .i64 0]) (i := 0) ?st a0 ng HN.out (Nat.zero_le _) H0.out HNG.out).mono ?_; (case st => repeat (first | (with_reducible first | exact HP.out | apply number_parts.St.drewN | apply number_parts.St.drew | apply number_parts.St.setA0 | apply number_parts.St.setA | apply number_parts.St.setT) | exact (rfl : (_ : Array Value) = _))); rintro e w4 ⟨rfl, hp⟩; replace HP := Aside0.mk hp; clear hp; have hcs : w4.cell? ⟨gs, 0, none⟩ = some (.string s) := (blk_cell HP.out.two.hs 0).trans rfl; have hca : w4.cell? ⟨ga, 0, none⟩ = some (.int .i64 a0) := (blk_cell HP.out.two.ha 0).trans rfl; have hfa := blk_frozen HP.out.two.ha 0; have ht0 : w4.cell? ⟨gt, 0, none⟩ = some (.bool false) := (blk_cell HP.out.ht 0).trans rfl; have hf0 := blk_frozen HP.out.ht 0; have ht1 : w4.cell? ⟨gt, 1, none⟩ = some (.string (⟨#[]⟩ : ByteArray)) := (blk_cell HP.out.ht 1).trans rfl; have hf1 := blk_frozen HP.out.ht 1; have ht2 : w4.cell? ⟨gt, 2, none⟩ = some (.string (⟨#[]⟩ : ByteArray)) := (blk_cell HP.out.ht 2).trans rfl; have hf2 := blk_frozen HP.out.ht 2; have ht3 : w4.cell? ⟨gt, 3, none⟩ = some (.string (⟨#[]⟩ : ByteArray)) := (blk_cell HP.out.ht 3).trans rfl; have hf3 := blk_frozen HP.out.ht 3; have ht4 : w4.cell? ⟨gt, 4, none⟩ = some (.int .i64 0) := (blk_cell HP.out.ht 4).trans rfl; have hf4 := blk_frozen HP.out.ht 4) | (go_at_call 146; refine (number_parts.digits_st (w := w) (gt := gt) (c := #[.bool ng, .string (⟨#[]⟩ : ByteArray), .string (⟨#[]⟩ : ByteArray), .string (⟨#[]⟩ : ByteArray), .int .i64 0]) (i := a0) ?st a1 sw HN.out H0b.out H1.out HSW.out).mono ?_; (case st => repeat (first | (with_reducible first | exact HP.out | apply number_parts.St.drewN | apply number_parts.St.drew | apply number_parts.St.setA0 | apply number_parts.St.setA | apply number_parts.St.setT) | exact (rfl : (_ : Array Value) = _))); rintro e w5 ⟨rfl, hp⟩; replace HP := Aside0.mk hp; clear hp; have hcs : w5.cell? ⟨gs, 0, none⟩ = some (.string s) := (blk_cell HP.out.two.hs 0).trans rfl; have hca : w5.cell? ⟨ga, 0, none⟩ = some (.int .i64 a1) := (blk_cell HP.out.two.ha 0).trans rfl; have hfa := blk_frozen HP.out.two.ha 0; have ht0 : w5.cell? ⟨gt, 0, none⟩ = some (.bool ng) := (blk_cell HP.out.ht 0).trans rfl; have hf0 := blk_frozen HP.out.ht 0; have ht1 : w5.cell? ⟨gt, 1, none⟩ = some (.string (⟨#[]⟩ : ByteArray)) := (blk_cell HP.out.ht 1).trans rfl; have hf1 := blk_frozen HP.out.ht 1; have ht2 : w5.cell? ⟨gt, 2, none⟩ = some (.string (⟨#[]⟩ : ByteArray)) := (blk_cell HP.out.ht 2).trans rfl; have hf2 := blk_frozen HP.out.ht 2; have ht3 : w5.cell? ⟨gt, 3, none⟩ = some (.string (⟨#[]⟩ : ByteArray)) := (blk_cell HP.out.ht 3).trans rfl; have hf3 := blk_frozen HP.out.ht 3; have ht4 : w5.cell? ⟨gt, 4, none⟩ = some (.int .i64 0) := (blk_cell HP.out.ht 4).trans rfl; have hf4 := blk_frozen HP.out.ht 4))
 go_cut [24] (fun v24 wc => v24 = .bool bd ∧ Aside0 (number_parts.St w wc gs gt ga s #[.bool ng, .string sw, .string (⟨#[]⟩ : ByteArray), .string (⟨#[]⟩ : ByteArray), .int .i64 0] a1))
 case first =>
  by_cases d1 : a1 < s.size
  ·obtain ⟨qa, qb, qc, qd, qe, qf⟩ := number_parts.at_in d1
   have d2 : bd = (bt s (a1 : Nat) == 46) := by rw [HBD.out]; unfold number_parts.isDot; rw [qd]; rfl
   have HD2 := Aside0.mk d2
   clear d1 d2
   go_wp2
   go_meet
   case rel => exact ⟨by rw [HD2.out], ⟨by repeat (first | (with_reducible first | exact HP.out | apply number_parts.St.drewN | apply number_parts.St.drew | apply number_parts.St.setA0 | apply number_parts.St.setA | apply number_parts.St.setT) | exact (rfl : (_ : Array Value) = _))⟩⟩
  ·obtain ⟨qa, qb⟩ := number_parts.at_out d1
   have d2 : bd = false := by rw [HBD.out]; unfold number_parts.isDot; rw [qb]; rfl
   have HD2 := Aside0.mk d2
   clear d1 d2
   go_wp2
   go_meet
   case rel => exact ⟨by rw [HD2.out], ⟨by repeat (first | (with_reducible first | exact HP.out | apply number_parts.St.drewN | apply number_parts.St.drew | apply number_parts.St.setA0 | apply number_parts.St.setA | apply number_parts.St.setT) | exact (rfl : (_ : Array Value) = _))⟩⟩
 case rest =>
  obtain ⟨rfl, HP⟩ := hcut
  have hcs : wc.cell? ⟨gs, 0, none⟩ = some (.string s) := (blk_cell HP.out.two.hs 0).trans rfl
  have hca : wc.cell? ⟨ga, 0, none⟩ = some (.int .i64 a1) := (blk_cell HP.out.two.ha 0).trans rfl
  have hfa := blk_frozen HP.out.two.ha 0
  have ht0 : wc.cell? ⟨gt, 0, none⟩ = some (.bool ng) := (blk_cell HP.out.ht 0).trans rfl
  have hf0 := blk_frozen HP.out.ht 0
  have ht1 : wc.cell? ⟨gt, 1, none⟩ = some (.string sw) := (blk_cell HP.out.ht 1).trans rfl
  have hf1 := blk_frozen HP.out.ht 1
  have ht2 : wc.cell? ⟨gt, 2, none⟩ = some (.string (⟨#[]⟩ : ByteArray)) := (blk_cell HP.out.ht 2).trans rfl
  have hf2 := blk_frozen HP.out.ht 2
  have ht3 : wc.cell? ⟨gt, 3, none⟩ = some (.string (⟨#[]⟩ : ByteArray)) := (blk_cell HP.out.ht 3).trans rfl
  have hf3 := blk_frozen HP.out.ht 3
  have ht4 : wc.cell? ⟨gt, 4, none⟩ = some (.int .i64 0) := (blk_cell HP.out.ht 4).trans rfl
  have hf4 := blk_frozen HP.out.ht 4
  go_upto_if 24 with (fail)
  go_cut [] (fun wc => Aside0 (number_parts.St w wc gs gt ga s #[.bool ng, .string sw, .string p, .string (⟨#[]⟩ : ByteArray), .int .i64 0] a2))
  case first =>
   rcases HD.out with ⟨d1, d2, d3⟩ | ⟨d1, d2, d3, d4⟩ | ⟨d1, d2, d3, d4, d5, d6⟩ | ⟨d1, d2, d3, d4, d5, d6⟩
   ·have d4 : bd = false := by rw [HBD.out]; unfold number_parts.isDot; rw [decide_eq_false d1]; rfl
    subst d4
    replace d2 := Aside0.mk d2
    replace d3 := Aside0.mk d3
    clear d1
    go_wp2
    go_meet
    case rel =>
     rw [d2.out, d3.out]
     exact ⟨by repeat (first | (with_reducible first | exact HP.out | apply number_parts.St.drewN | apply number_parts.St.drew | apply number_parts.St.setA0 | apply number_parts.St.setA | apply number_parts.St.setT) | exact (rfl : (_ : Array Value) = _))⟩
   ·have d5 : bd = false := by rw [HBD.out]; unfold number_parts.isDot; rw [d2, Bool.and_false]
    subst d5
    replace d3 := Aside0.mk d3
    replace d4 := Aside0.mk d4
    clear d1 d2
    go_wp2
    go_meet
    case rel =>
     rw [d3.out, d4.out]
     exact ⟨by repeat (first | (with_reducible first | exact HP.out | apply number_parts.St.drewN | apply number_parts.St.drew | apply number_parts.St.setA0 | apply number_parts.St.setA | apply number_parts.St.setT) | exact (rfl : (_ : Array Value) = _))⟩
   ·have HPP := Aside0.mk d5.symm
    have HP2 := Aside0.mk (HP1.out d1)
    have HB3 := Aside0.mk (HB1.out d1)
    have d7 : bp = true := hbp.symm.trans d4
    have d8 : bd = true := by rw [HBD.out]; unfold number_parts.isDot; rw [decide_eq_true d1, d2]; rfl
    replace d6 := Aside0.mk d6
    clear d1 d2 d4 d5 HP1 HB1
    have HP1 := HP2
    have HB1 := HB3
    subst d7
    subst d8
    have d9 := d3.symm
    subst d9
    go_wp2_with (first | (go_at_call 146; refine (number_parts.digits_st (w := w) (gt := gt) (c := #[.bool ng, .string sw, .string (⟨#[]⟩ : ByteArray), .string (⟨#[]⟩ : ByteArray), .int .i64 0]) (i := b1) ?st b1 p HN.out HB1.out HP1.out HPP.out).mono ?_; (case st => repeat (first | (with_reducible first | exact HP.out | apply number_parts.St.drewN | apply number_parts.St.drew | apply number_parts.St.setA0 | apply number_parts.St.setA | apply number_parts.St.setT) | exact (rfl : (_ : Array Value) = _))); rintro e w6 ⟨rfl, hp⟩; replace HP := Aside0.mk hp; clear hp; have hcs : w6.cell? ⟨gs, 0, none⟩ = some (.string s) := (blk_cell HP.out.two.hs 0).trans rfl; have hca : w6.cell? ⟨ga, 0, none⟩ = some (.int .i64 b1) := (blk_cell HP.out.two.ha 0).trans rfl; have hfa := blk_frozen HP.out.two.ha 0; have ht0 : w6.cell? ⟨gt, 0, none⟩ = some (.bool ng) := (blk_cell HP.out.ht 0).trans rfl; have hf0 := blk_frozen HP.out.ht 0; have ht1 : w6.cell? ⟨gt, 1, none⟩ = some (.string sw) := (blk_cell HP.out.ht 1).trans rfl; have hf1 := blk_frozen HP.out.ht 1; have ht2 : w6.cell? ⟨gt, 2, none⟩ = some (.string (⟨#[]⟩ : ByteArray)) := (blk_cell HP.out.ht 2).trans rfl; have hf2 := blk_frozen HP.out.ht 2; have ht3 : w6.cell? ⟨gt, 3, none⟩ = some (.string (⟨#[]⟩ : ByteArray)) := (blk_cell HP.out.ht 3).trans rfl; have hf3 := blk_frozen HP.out.ht 3; have ht4 : w6.cell? ⟨gt, 4, none⟩ = some (.int .i64 0) := (blk_cell HP.out.ht 4).trans rfl; have hf4 := blk_frozen HP.out.ht 4))
    go_meet
    case rel =>
     rw [d6.out]
     exact ⟨by repeat (first | (with_reducible first | exact HP.out | apply number_parts.St.drewN | apply number_parts.St.drew | apply number_parts.St.setA0 | apply number_parts.St.setA | apply number_parts.St.setT) | exact (rfl : (_ : Array Value) = _))⟩
   ·have HPP := Aside0.mk d5.symm
    have HP2 := Aside0.mk (HP1.out d1)
    have HB3 := Aside0.mk (HB1.out d1)
    have d7 : bp = false := hbp.symm.trans d4
    have d8 : bd = true := by rw [HBD.out]; unfold number_parts.isDot; rw [decide_eq_true d1, d2]; rfl
    replace d6 := Aside0.mk d6
    clear d1 d2 d3 d4 d5 HP1 HB1
    have HP1 := HP2
    have HB1 := HB3
    subst d7
    subst d8
    go_wp2_with (first | (go_at_call 146; refine (number_parts.digits_st (w := w) (gt := gt) (c := #[.bool ng, .string sw, .string (⟨#[]⟩ : ByteArray), .string (⟨#[]⟩ : ByteArray), .int .i64 0]) (i := b1) ?st p1 p HN.out HB1.out HP1.out HPP.out).mono ?_; (case st => repeat (first | (with_reducible first | exact HP.out | apply number_parts.St.drewN | apply number_parts.St.drew | apply number_parts.St.setA0 | apply number_parts.St.setA | apply number_parts.St.setT) | exact (rfl : (_ : Array Value) = _))); rintro e w6 ⟨rfl, hp⟩; replace HP := Aside0.mk hp; clear hp; have hcs : w6.cell? ⟨gs, 0, none⟩ = some (.string s) := (blk_cell HP.out.two.hs 0).trans rfl; have hca : w6.cell? ⟨ga, 0, none⟩ = some (.int .i64 p1) := (blk_cell HP.out.two.ha 0).trans rfl; have hfa := blk_frozen HP.out.two.ha 0; have ht0 : w6.cell? ⟨gt, 0, none⟩ = some (.bool ng) := (blk_cell HP.out.ht 0).trans rfl; have hf0 := blk_frozen HP.out.ht 0; have ht1 : w6.cell? ⟨gt, 1, none⟩ = some (.string sw) := (blk_cell HP.out.ht 1).trans rfl; have hf1 := blk_frozen HP.out.ht 1; have ht2 : w6.cell? ⟨gt, 2, none⟩ = some (.string (⟨#[]⟩ : ByteArray)) := (blk_cell HP.out.ht 2).trans rfl; have hf2 := blk_frozen HP.out.ht 2; have ht3 : w6.cell? ⟨gt, 3, none⟩ = some (.string (⟨#[]⟩ : ByteArray)) := (blk_cell HP.out.ht 3).trans rfl; have hf3 := blk_frozen HP.out.ht 3; have ht4 : w6.cell? ⟨gt, 4, none⟩ = some (.int .i64 0) := (blk_cell HP.out.ht 4).trans rfl; have hf4 := blk_frozen HP.out.ht 4))
    go_meet
    case rel =>
     rw [d6.out]
     exact ⟨by repeat (first | (with_reducible first | exact HP.out | apply number_parts.St.drewN | apply number_parts.St.drew | apply number_parts.St.setA0 | apply number_parts.St.setA | apply number_parts.St.setT) | exact (rfl : (_ : Array Value) = _))⟩
  case rest =>
   have HP := hcut
   clear hcut
   have hcs : wc.cell? ⟨gs, 0, none⟩ = some (.string s) := (blk_cell HP.out.two.hs 0).trans rfl
   have hca : wc.cell? ⟨ga, 0, none⟩ = some (.int .i64 a2) := (blk_cell HP.out.two.ha 0).trans rfl
   have hfa := blk_frozen HP.out.two.ha 0
   have ht0 : wc.cell? ⟨gt, 0, none⟩ = some (.bool ng) := (blk_cell HP.out.ht 0).trans rfl
   have hf0 := blk_frozen HP.out.ht 0
   have ht1 : wc.cell? ⟨gt, 1, none⟩ = some (.string sw) := (blk_cell HP.out.ht 1).trans rfl
   have hf1 := blk_frozen HP.out.ht 1
   have ht2 : wc.cell? ⟨gt, 2, none⟩ = some (.string p) := (blk_cell HP.out.ht 2).trans rfl
   have hf2 := blk_frozen HP.out.ht 2
   have ht3 : wc.cell? ⟨gt, 3, none⟩ = some (.string (⟨#[]⟩ : ByteArray)) := (blk_cell HP.out.ht 3).trans rfl
   have hf3 := blk_frozen HP.out.ht 3
   have ht4 : wc.cell? ⟨gt, 4, none⟩ = some (.int .i64 0) := (blk_cell HP.out.ht 4).trans rfl
   have hf4 := blk_frozen HP.out.ht 4
   go_upto_region 11 with (fail)
   go_cut [42] (fun v42 wc => v42 = .bool false ∧ Aside0 (number_parts.St w wc gs gt ga s #[.bool ng, .string sw, .string p, .string (⟨#[]⟩ : ByteArray), .int .i64 0] a2))
   case first =>
    cases bw
    ·go_wp2
     go_meet
     case rel => exact ⟨rfl, ⟨by repeat (first | (with_reducible first | exact HP.out | apply number_parts.St.drewN | apply number_parts.St.drew | apply number_parts.St.setA0 | apply number_parts.St.setA | apply number_parts.St.setT) | exact (rfl : (_ : Array Value) = _))⟩⟩
    ·have d1 : bp = false := by simpa using hZ
     subst d1
     go_wp2
     go_meet
     case rel => exact ⟨rfl, ⟨by repeat (first | (with_reducible first | exact HP.out | apply number_parts.St.drewN | apply number_parts.St.drew | apply number_parts.St.setA0 | apply number_parts.St.setA | apply number_parts.St.setT) | exact (rfl : (_ : Array Value) = _))⟩⟩
   case rest =>
    obtain ⟨rfl, HP⟩ := hcut
    have hcs : wc.cell? ⟨gs, 0, none⟩ = some (.string s) := (blk_cell HP.out.two.hs 0).trans rfl
    have hca : wc.cell? ⟨ga, 0, none⟩ = some (.int .i64 a2) := (blk_cell HP.out.two.ha 0).trans rfl
    have hfa := blk_frozen HP.out.two.ha 0
    have ht0 : wc.cell? ⟨gt, 0, none⟩ = some (.bool ng) := (blk_cell HP.out.ht 0).trans rfl
    have hf0 := blk_frozen HP.out.ht 0
    have ht1 : wc.cell? ⟨gt, 1, none⟩ = some (.string sw) := (blk_cell HP.out.ht 1).trans rfl
    have hf1 := blk_frozen HP.out.ht 1
    have ht2 : wc.cell? ⟨gt, 2, none⟩ = some (.string p) := (blk_cell HP.out.ht 2).trans rfl
    have hf2 := blk_frozen HP.out.ht 2
    have ht3 : wc.cell? ⟨gt, 3, none⟩ = some (.string (⟨#[]⟩ : ByteArray)) := (blk_cell HP.out.ht 3).trans rfl
    have hf3 := blk_frozen HP.out.ht 3
    have ht4 : wc.cell? ⟨gt, 4, none⟩ = some (.int .i64 0) := (blk_cell HP.out.ht 4).trans rfl
    have hf4 := blk_frozen HP.out.ht 4
    go_upto_region 14 with (fail)
    go_cut [61] (fun v61 wc => v61 = .bool be ∧ Aside0 (number_parts.St w wc gs gt ga s #[.bool ng, .string sw, .string p, .string (⟨#[]⟩ : ByteArray), .int .i64 a2] a2))
    case first =>
     by_cases d1 : a2 < s.size
     ·obtain ⟨qa, qb, qc, qd, qe, qf⟩ := number_parts.at_in d1
      have d2 : be = ((bt s (a2 : Nat) == 101) || (bt s (a2 : Nat) == 69)) := by rw [HBE.out]; unfold number_parts.isE; rw [qd]; rfl
      have HD2 := Aside0.mk d2
      clear d1 d2
      cases d3 : (bt s (a2 : Nat) == 101)
      ·go_wp2
       go_meet
       case rel => exact ⟨by rw [HD2.out, d3]; rfl, ⟨by repeat (first | (with_reducible first | exact HP.out | apply number_parts.St.drewN | apply number_parts.St.drew | apply number_parts.St.setA0 | apply number_parts.St.setA | apply number_parts.St.setT) | exact (rfl : (_ : Array Value) = _))⟩⟩
      ·go_wp2
       go_meet
       case rel => exact ⟨by rw [HD2.out, d3]; rfl, ⟨by repeat (first | (with_reducible first | exact HP.out | apply number_parts.St.drewN | apply number_parts.St.drew | apply number_parts.St.setA0 | apply number_parts.St.setA | apply number_parts.St.setT) | exact (rfl : (_ : Array Value) = _))⟩⟩
     ·obtain ⟨qa, qb⟩ := number_parts.at_out d1
      have d2 : be = false := by rw [HBE.out]; unfold number_parts.isE; rw [qb]; rfl
      have HD2 := Aside0.mk d2
      clear d1 d2
      go_wp2
      go_meet
      case rel => exact ⟨by rw [HD2.out], ⟨by repeat (first | (with_reducible first | exact HP.out | apply number_parts.St.drewN | apply number_parts.St.drew | apply number_parts.St.setA0 | apply number_parts.St.setA | apply number_parts.St.setT) | exact (rfl : (_ : Array Value) = _))⟩⟩
    case rest =>
     obtain ⟨rfl, HP⟩ := hcut
     have hcs : wc.cell? ⟨gs, 0, none⟩ = some (.string s) := (blk_cell HP.out.two.hs 0).trans rfl
     have hca : wc.cell? ⟨ga, 0, none⟩ = some (.int .i64 a2) := (blk_cell HP.out.two.ha 0).trans rfl
     have hfa := blk_frozen HP.out.two.ha 0
     have ht0 : wc.cell? ⟨gt, 0, none⟩ = some (.bool ng) := (blk_cell HP.out.ht 0).trans rfl
     have hf0 := blk_frozen HP.out.ht 0
     have ht1 : wc.cell? ⟨gt, 1, none⟩ = some (.string sw) := (blk_cell HP.out.ht 1).trans rfl
     have hf1 := blk_frozen HP.out.ht 1
     have ht2 : wc.cell? ⟨gt, 2, none⟩ = some (.string p) := (blk_cell HP.out.ht 2).trans rfl
     have hf2 := blk_frozen HP.out.ht 2
     have ht3 : wc.cell? ⟨gt, 3, none⟩ = some (.string (⟨#[]⟩ : ByteArray)) := (blk_cell HP.out.ht 3).trans rfl
     have hf3 := blk_frozen HP.out.ht 3
     have ht4 : wc.cell? ⟨gt, 4, none⟩ = some (.int .i64 a2) := (blk_cell HP.out.ht 4).trans rfl
     have hf4 := blk_frozen HP.out.ht 4
     go_upto_if 61 with (fail)
     go_cut [] (fun wc => ∃ i : Nat, Aside0 (number_parts.St w wc gs gt ga s #[.bool ng, .string sw, .string p, .string x, .int .i64 en] i))
     case first =>
      rcases HE.out with ⟨d1, d2, d3⟩ | ⟨d1, d2, d3, d4, d5⟩ | ⟨d1, d2, d3, d4, d5⟩ | ⟨d1, d2, d3, d4, d5⟩
      ·have d4 : be = false := by rw [HBE.out]; unfold number_parts.isE; rw [decide_eq_false d1]; rfl
       subst d4
       replace d2 := Aside0.mk d2
       replace d3 := Aside0.mk d3
       clear d1
       go_wp2
       go_meet
       case rel =>
        rw [d2.out, ← d3.out]
        exact ⟨_, ⟨by repeat (first | (with_reducible first | exact HP.out | apply number_parts.St.drewN | apply number_parts.St.drew | apply number_parts.St.setA0 | apply number_parts.St.setA | apply number_parts.St.setT) | exact (rfl : (_ : Array Value) = _))⟩⟩
      ·have d6 : be = false := by rw [HBE.out]; unfold number_parts.isE; rw [d2, d3, Bool.or_false, Bool.and_false]
       subst d6
       replace d4 := Aside0.mk d4
       replace d5 := Aside0.mk d5
       clear d1 d2 d3
       go_wp2
       go_meet
       case rel =>
        rw [d4.out, ← d5.out]
        exact ⟨_, ⟨by repeat (first | (with_reducible first | exact HP.out | apply number_parts.St.drewN | apply number_parts.St.drew | apply number_parts.St.setA0 | apply number_parts.St.setA | apply number_parts.St.setT) | exact (rfl : (_ : Array Value) = _))⟩⟩
      ·have d6 : be = true := by rw [HBE.out]; unfold number_parts.isE; rw [decide_eq_true d1]; exact d2.elim (fun h => by rw [h]; rfl) (fun h => by rw [h.1, h.2]; rfl)
       subst d6
       have H2 := Aside0.mk (HB2.out d1)
       have H3 := Aside0.mk (HX0.out d1)
       have H4 := Aside0.mk (HX0b.out d1)
       have H5 := Aside0.mk (HX1.out d1)
       clear HB2 HX0 HX0b HX1 HX1b
       have HB2 := H2
       have HX0 := H3
       have HX0b := H4
       have HX1 := H5
       have e5 : (y.toList != ([] : List UInt8)) = false := by rw [bne, d3]; rfl
       replace d4 := Aside0.mk d4
       replace d5 := Aside0.mk d5
       clear d1 d2
       go_wp2_with (first | (go_at_call 145; refine (number_parts.sign_st (w := w) (gt := gt) (c := #[.bool ng, .string sw, .string p, .string (⟨#[]⟩ : ByteArray), .int .i64 a2]) (i := b2) ?st x0 q HN.out HB2.out HX0.out HQ.out).mono ?_; (case st => repeat (first | (with_reducible first | exact HP.out | apply number_parts.St.drewN | apply number_parts.St.drew | apply number_parts.St.setA0 | apply number_parts.St.setA | apply number_parts.St.setT) | exact (rfl : (_ : Array Value) = _))); rintro e w7 ⟨rfl, hp⟩; replace HP := Aside0.mk hp; clear hp; have hcs : w7.cell? ⟨gs, 0, none⟩ = some (.string s) := (blk_cell HP.out.two.hs 0).trans rfl; have hca : w7.cell? ⟨ga, 0, none⟩ = some (.int .i64 x0) := (blk_cell HP.out.two.ha 0).trans rfl; have hfa := blk_frozen HP.out.two.ha 0; have ht0 : w7.cell? ⟨gt, 0, none⟩ = some (.bool ng) := (blk_cell HP.out.ht 0).trans rfl; have hf0 := blk_frozen HP.out.ht 0; have ht1 : w7.cell? ⟨gt, 1, none⟩ = some (.string sw) := (blk_cell HP.out.ht 1).trans rfl; have hf1 := blk_frozen HP.out.ht 1; have ht2 : w7.cell? ⟨gt, 2, none⟩ = some (.string p) := (blk_cell HP.out.ht 2).trans rfl; have hf2 := blk_frozen HP.out.ht 2; have ht3 : w7.cell? ⟨gt, 3, none⟩ = some (.string (⟨#[]⟩ : ByteArray)) := (blk_cell HP.out.ht 3).trans rfl; have hf3 := blk_frozen HP.out.ht 3; have ht4 : w7.cell? ⟨gt, 4, none⟩ = some (.int .i64 a2) := (blk_cell HP.out.ht 4).trans rfl; have hf4 := blk_frozen HP.out.ht 4) | (go_at_call 146; refine (number_parts.digits_st (w := w) (gt := gt) (c := #[.bool ng, .string sw, .string p, .string (⟨#[]⟩ : ByteArray), .int .i64 a2]) (i := x0) ?st x1 y HN.out HX0b.out HX1.out HY.out).mono ?_; (case st => repeat (first | (with_reducible first | exact HP.out | apply number_parts.St.drewN | apply number_parts.St.drew | apply number_parts.St.setA0 | apply number_parts.St.setA | apply number_parts.St.setT) | exact (rfl : (_ : Array Value) = _))); rintro e w8 ⟨rfl, hp⟩; replace HP := Aside0.mk hp; clear hp; have hcs : w8.cell? ⟨gs, 0, none⟩ = some (.string s) := (blk_cell HP.out.two.hs 0).trans rfl; have hca : w8.cell? ⟨ga, 0, none⟩ = some (.int .i64 x1) := (blk_cell HP.out.two.ha 0).trans rfl; have hfa := blk_frozen HP.out.two.ha 0; have ht0 : w8.cell? ⟨gt, 0, none⟩ = some (.bool ng) := (blk_cell HP.out.ht 0).trans rfl; have hf0 := blk_frozen HP.out.ht 0; have ht1 : w8.cell? ⟨gt, 1, none⟩ = some (.string sw) := (blk_cell HP.out.ht 1).trans rfl; have hf1 := blk_frozen HP.out.ht 1; have ht2 : w8.cell? ⟨gt, 2, none⟩ = some (.string p) := (blk_cell HP.out.ht 2).trans rfl; have hf2 := blk_frozen HP.out.ht 2; have ht3 : w8.cell? ⟨gt, 3, none⟩ = some (.string (⟨#[]⟩ : ByteArray)) := (blk_cell HP.out.ht 3).trans rfl; have hf3 := blk_frozen HP.out.ht 3; have ht4 : w8.cell? ⟨gt, 4, none⟩ = some (.int .i64 a2) := (blk_cell HP.out.ht 4).trans rfl; have hf4 := blk_frozen HP.out.ht 4))
       go_meet
       case rel =>
        rw [d4.out, ← d5.out]
        exact ⟨_, ⟨by repeat (first | (with_reducible first | exact HP.out | apply number_parts.St.drewN | apply number_parts.St.drew | apply number_parts.St.setA0 | apply number_parts.St.setA | apply number_parts.St.setT) | exact (rfl : (_ : Array Value) = _))⟩⟩
      ·have d6 : be = true := by rw [HBE.out]; unfold number_parts.isE; rw [decide_eq_true d1]; exact d2.elim (fun h => by rw [h]; rfl) (fun h => by rw [h.1, h.2]; rfl)
       subst d6
       have HX := Aside0.mk (HX1b.out d1)
       have H2 := Aside0.mk (HB2.out d1)
       have H3 := Aside0.mk (HX0.out d1)
       have H4 := Aside0.mk (HX0b.out d1)
       have H5 := Aside0.mk (HX1.out d1)
       clear HB2 HX0 HX0b HX1 HX1b
       have HB2 := H2
       have HX0 := H3
       have HX0b := H4
       have HX1 := H5
       have e5 : (y.toList != ([] : List UInt8)) = true := by rw [bne, d3]; rfl
       replace d4 := Aside0.mk d4
       replace d5 := Aside0.mk d5
       have sa : (b2 ≤ x1) = True := eq_true HX.out.1
       have sb : (x1 ≤ s.size) = True := eq_true HX.out.2
       have sc : ((b2 : Int) ≤ (x1 : Int)) = True := eq_true (Int.ofNat_le.2 HX.out.1)
       have sd : ((x1 : Int) ≤ (s.size : Int)) = True := eq_true (Int.ofNat_le.2 HX.out.2)
       have se : decide (b2 ≤ x1) = true := decide_eq_true HX.out.1
       have sf : decide (x1 ≤ s.size) = true := decide_eq_true HX.out.2
       have sg : (0 ≤ (b2 : Int)) = True := eq_true (Int.natCast_nonneg b2)
       clear d1 d2
       go_wp2_with (first | (go_at_call 145; refine (number_parts.sign_st (w := w) (gt := gt) (c := #[.bool ng, .string sw, .string p, .string (⟨#[]⟩ : ByteArray), .int .i64 a2]) (i := b2) ?st x0 q HN.out HB2.out HX0.out HQ.out).mono ?_; (case st => repeat (first | (with_reducible first | exact HP.out | apply number_parts.St.drewN | apply number_parts.St.drew | apply number_parts.St.setA0 | apply number_parts.St.setA | apply number_parts.St.setT) | exact (rfl : (_ : Array Value) = _))); rintro e w7 ⟨rfl, hp⟩; replace HP := Aside0.mk hp; clear hp; have hcs : w7.cell? ⟨gs, 0, none⟩ = some (.string s) := (blk_cell HP.out.two.hs 0).trans rfl; have hca : w7.cell? ⟨ga, 0, none⟩ = some (.int .i64 x0) := (blk_cell HP.out.two.ha 0).trans rfl; have hfa := blk_frozen HP.out.two.ha 0; have ht0 : w7.cell? ⟨gt, 0, none⟩ = some (.bool ng) := (blk_cell HP.out.ht 0).trans rfl; have hf0 := blk_frozen HP.out.ht 0; have ht1 : w7.cell? ⟨gt, 1, none⟩ = some (.string sw) := (blk_cell HP.out.ht 1).trans rfl; have hf1 := blk_frozen HP.out.ht 1; have ht2 : w7.cell? ⟨gt, 2, none⟩ = some (.string p) := (blk_cell HP.out.ht 2).trans rfl; have hf2 := blk_frozen HP.out.ht 2; have ht3 : w7.cell? ⟨gt, 3, none⟩ = some (.string (⟨#[]⟩ : ByteArray)) := (blk_cell HP.out.ht 3).trans rfl; have hf3 := blk_frozen HP.out.ht 3; have ht4 : w7.cell? ⟨gt, 4, none⟩ = some (.int .i64 a2) := (blk_cell HP.out.ht 4).trans rfl; have hf4 := blk_frozen HP.out.ht 4) | (go_at_call 146; refine (number_parts.digits_st (w := w) (gt := gt) (c := #[.bool ng, .string sw, .string p, .string (⟨#[]⟩ : ByteArray), .int .i64 a2]) (i := x0) ?st x1 y HN.out HX0b.out HX1.out HY.out).mono ?_; (case st => repeat (first | (with_reducible first | exact HP.out | apply number_parts.St.drewN | apply number_parts.St.drew | apply number_parts.St.setA0 | apply number_parts.St.setA | apply number_parts.St.setT) | exact (rfl : (_ : Array Value) = _))); rintro e w8 ⟨rfl, hp⟩; replace HP := Aside0.mk hp; clear hp; have hcs : w8.cell? ⟨gs, 0, none⟩ = some (.string s) := (blk_cell HP.out.two.hs 0).trans rfl; have hca : w8.cell? ⟨ga, 0, none⟩ = some (.int .i64 x1) := (blk_cell HP.out.two.ha 0).trans rfl; have hfa := blk_frozen HP.out.two.ha 0; have ht0 : w8.cell? ⟨gt, 0, none⟩ = some (.bool ng) := (blk_cell HP.out.ht 0).trans rfl; have hf0 := blk_frozen HP.out.ht 0; have ht1 : w8.cell? ⟨gt, 1, none⟩ = some (.string sw) := (blk_cell HP.out.ht 1).trans rfl; have hf1 := blk_frozen HP.out.ht 1; have ht2 : w8.cell? ⟨gt, 2, none⟩ = some (.string p) := (blk_cell HP.out.ht 2).trans rfl; have hf2 := blk_frozen HP.out.ht 2; have ht3 : w8.cell? ⟨gt, 3, none⟩ = some (.string (⟨#[]⟩ : ByteArray)) := (blk_cell HP.out.ht 3).trans rfl; have hf3 := blk_frozen HP.out.ht 3; have ht4 : w8.cell? ⟨gt, 4, none⟩ = some (.int .i64 a2) := (blk_cell HP.out.ht 4).trans rfl; have hf4 := blk_frozen HP.out.ht 4))
       go_region
       all_goals
        go_wp2
        go_meet
        case rel =>
         rw [d4.out, ← d5.out]
         exact ⟨_, ⟨by repeat (first | (with_reducible first | exact HP.out | apply number_parts.St.drewN | apply number_parts.St.drew | apply number_parts.St.setA0 | apply number_parts.St.setA | apply number_parts.St.setT) | exact (rfl : (_ : Array Value) = _))⟩⟩
     case rest =>
      obtain ⟨i, HP⟩ := hcut
      have hcs : wc.cell? ⟨gs, 0, none⟩ = some (.string s) := (blk_cell HP.out.two.hs 0).trans rfl
      have hca : wc.cell? ⟨ga, 0, none⟩ = some (.int .i64 i) := (blk_cell HP.out.two.ha 0).trans rfl
      have hfa := blk_frozen HP.out.two.ha 0
      have ht0 : wc.cell? ⟨gt, 0, none⟩ = some (.bool ng) := (blk_cell HP.out.ht 0).trans rfl
      have hf0 := blk_frozen HP.out.ht 0
      have ht1 : wc.cell? ⟨gt, 1, none⟩ = some (.string sw) := (blk_cell HP.out.ht 1).trans rfl
      have hf1 := blk_frozen HP.out.ht 1
      have ht2 : wc.cell? ⟨gt, 2, none⟩ = some (.string p) := (blk_cell HP.out.ht 2).trans rfl
      have hf2 := blk_frozen HP.out.ht 2
      have ht3 : wc.cell? ⟨gt, 3, none⟩ = some (.string x) := (blk_cell HP.out.ht 3).trans rfl
      have hf3 := blk_frozen HP.out.ht 3
      have ht4 : wc.cell? ⟨gt, 4, none⟩ = some (.int .i64 en) := (blk_cell HP.out.ht 4).trans rfl
      have hf4 := blk_frozen HP.out.ht 4
      go_wp2
      refine bodyPost_ret (results_cell_row rfl _ _ gt 134 #[.bool ng, .string sw, .string p, .string x, .int .i64 en] (0, 0) _ rfl (show _ from (by repeat (first | (with_reducible first | exact HP.out | apply number_parts.St.drewN | apply number_parts.St.drew | apply number_parts.St.setA0 | apply number_parts.St.setA | apply number_parts.St.setT) | exact (rfl : (_ : Array Value) = _)) : number_parts.St w _ gs gt ga s #[.bool ng, .string sw, .string p, .string x, .int .i64 en] _).ht) Tryz.underlying134 rfl (by kernel_rfl)) rfl ?_
      exact ⟨rfl, (by repeat (first | (with_reducible first | exact HP.out | apply number_parts.St.drewN | apply number_parts.St.drew | apply number_parts.St.setA0 | apply number_parts.St.setA | apply number_parts.St.setT) | exact (rfl : (_ : Array Value) = _)) : number_parts.St w _ gs gt ga s #[.bool ng, .string sw, .string p, .string x, .int .i64 en] _).b⟩

set_option maxHeartbeats 40000000 in
set_option maxRecDepth 100000 in
theorem number_parts.walk0 (s sw p y x : ByteArray) (ng q : Bool) (a0 a1 b1 p1 a2 b2 x0 x1 en : Nat) (w : World) (hs : s.size ≤ 140737488351232)
  (h0 : number_parts.sgn s 0 = a0) (hn : number_parts.neg s 0 = ng) (h0b : a0 ≤ s.size) (h1 : number_parts.stop s a0 = a1) (h1b : a1 ≤ s.size) (hsw : s.extract a0 a1 = sw) (hb1 : b1 = a1 + 1)
  (hD : number_parts.DotWay s a1 b1 p1 a2 p) (hp1 : a1 < s.size → number_parts.stop s b1 = p1) (h2b : a2 ≤ s.size) (hb2 : b2 = a2 + 1)
  (hZ : ((sw.toList == ([] : List UInt8)) && (p.toList == ([] : List UInt8))) = true)
  (hx0 : a2 < s.size → number_parts.sgn s b2 = x0) (hq : number_parts.neg s b2 = q) (hx0b : a2 < s.size → x0 ≤ s.size) (hx1 : a2 < s.size → number_parts.stop s x0 = x1) (hy : s.extract x0 x1 = y) (hx1b : a2 < s.size → b2 ≤ x1 ∧ x1 ≤ s.size) :
  Calls Tryz.prog 123 #[.string s] w fun e w' => e = .returned (.agg #[.bool false, .string (⟨#[]⟩ : ByteArray), .string (⟨#[]⟩ : ByteArray), .string (⟨#[]⟩ : ByteArray), .int .i64 0]) ∧ Below w.heap.size w w' := by
 have hu := Tryz.underlying134
 have HB1 : Aside0 (a1 < s.size → b1 ≤ s.size) := ⟨fun h => by omega⟩
 have HB2 : Aside0 (a2 < s.size → b2 ≤ s.size) := ⟨fun h => by omega⟩
 have HN := Aside0.mk hs
 have H0 := Aside0.mk h0
 have HNG := Aside0.mk hn
 have H0b := Aside0.mk h0b
 have H1 := Aside0.mk h1
 have HSW := Aside0.mk hsw
 have HQ := Aside0.mk hq
 have HY := Aside0.mk hy
 have hW1 : wrap64 ((a1 : Int) + 1) = (b1 : Int) := by rw [hb1]; exact number_parts.wr1 h1b hs
 have hW2 : wrap64 ((b1 : Int) - 1) = (a1 : Int) := by rw [hb1]; exact number_parts.wr2 h1b hs
 have hW3 : wrap64 ((a2 : Int) + 1) = (b2 : Int) := by rw [hb2]; exact number_parts.wr1 h2b hs
 have HP1 := Aside0.mk hp1
 have HX0 := Aside0.mk hx0
 have HX0b := Aside0.mk hx0b
 have HX1 := Aside0.mk hx1
 have HX1b := Aside0.mk hx1b
 clear hs h0 hn h0b h1 hsw hq hy hb1 hb2 hp1 hx0 hx0b hx1 hx1b h1b h2b
 have HD : (∃ bw bp : Bool, (sw.toList == ([] : List UInt8)) = bw ∧ (p.toList == ([] : List UInt8)) = bp) := ⟨_, _, rfl, rfl⟩
 obtain ⟨bw, bp, hbw, hbp⟩ := HD
 rw [hbw, hbp] at hZ
 have hbw1 : (sw.toList != ([] : List UInt8)) = !bw := by rw [← hbw]; rfl
 have hbp1 : (p.toList != ([] : List UInt8)) = !bp := by rw [← hbp]; rfl
 obtain ⟨bd, hbd⟩ : ∃ bd : Bool, bd = number_parts.isDot s a1 := ⟨_, rfl⟩
 have HBD := Aside0.mk hbd
 have HD := Aside0.mk hD
 clear hbd hD
 go_enter Tryz.func123, Tryz.ntmps123
 go_upto_region 6 with (first | ((with_reducible refine gate_dst (N := 1) rfl ?_); (try (refine gate_guard (by rfl) ?_; dsimp only)); refine box_event ?hg (N := 1) ?hd (cs := #[.string s]) (t := 9) ?hr ?_; (case hd => rfl); (case hg => rfl); (case hr => first | (go_simp; done) | (go_simp; rfl)); intro gs hg w1 hbox hb; have KB1 := Aside0.mk hb; have KS1 := Aside0.mk hbox; have KG1 := Aside0.mk hg; clear hg hbox hb) | ((with_reducible refine gate_dst (N := 2) rfl ?_); (try (refine gate_guard (by rfl) ?_; dsimp only)); refine box_event ?hg (N := 2) ?hd (cs := #[.bool false, .string (⟨#[]⟩ : ByteArray), .string (⟨#[]⟩ : ByteArray), .string (⟨#[]⟩ : ByteArray), .int .i64 0]) (t := 134) ?hr ?_; (case hd => rfl); (case hg => rfl); (case hr => first | (go_simp; done) | (go_simp; rfl)); intro gt hg w2 hbox hb; have KB2 := Aside0.mk hb; have KS2 := Aside0.mk hbox; have KG2 := Aside0.mk hg; clear hg hbox hb) | ((with_reducible refine gate_dst (N := 3) rfl ?_); (try (refine gate_guard (by rfl) ?_; dsimp only)); refine box_event ?hg (N := 3) ?hd (cs := #[.int .i64 0]) (t := 3) ?hr ?_; (case hd => rfl); (case hg => rfl); (case hr => first | (go_simp; done) | (go_simp; rfl)); intro ga hg w3 hbox hb; have KB3 := Aside0.mk hb; have KS3 := Aside0.mk hbox; have KG3 := Aside0.mk hg; clear hg hbox hb; have HP := Aside0.mk (number_parts.St.start KG1.out KS1.out KB1.out KG2.out KS2.out KB2.out KG3.out KS3.out KB3.out); have n1 : gs ≠ gt := Nat.ne_of_lt HP.out.o1; have n2 : gt ≠ gs := Nat.ne_of_gt HP.out.o1; have n3 : gt ≠ ga := Nat.ne_of_lt HP.out.o2; have n4 : ga ≠ gt := Nat.ne_of_gt HP.out.o2; have n5 : gs ≠ ga := Nat.ne_of_lt HP.out.two.lt; have n6 : ga ≠ gs := Nat.ne_of_gt HP.out.two.lt; have hcs : w3.cell? ⟨gs, 0, none⟩ = some (.string s) := (blk_cell HP.out.two.hs 0).trans rfl; have hca : w3.cell? ⟨ga, 0, none⟩ = some (.int .i64 0) := (blk_cell HP.out.two.ha 0).trans rfl; have hfa := blk_frozen HP.out.two.ha 0; have ht0 : w3.cell? ⟨gt, 0, none⟩ = some (.bool false) := (blk_cell HP.out.ht 0).trans rfl; have hf0 := blk_frozen HP.out.ht 0; have ht1 : w3.cell? ⟨gt, 1, none⟩ = some (.string (⟨#[]⟩ : ByteArray)) := (blk_cell HP.out.ht 1).trans rfl; have hf1 := blk_frozen HP.out.ht 1; have ht2 : w3.cell? ⟨gt, 2, none⟩ = some (.string (⟨#[]⟩ : ByteArray)) := (blk_cell HP.out.ht 2).trans rfl; have hf2 := blk_frozen HP.out.ht 2; have ht3 : w3.cell? ⟨gt, 3, none⟩ = some (.string (⟨#[]⟩ : ByteArray)) := (blk_cell HP.out.ht 3).trans rfl; have hf3 := blk_frozen HP.out.ht 3; have ht4 : w3.cell? ⟨gt, 4, none⟩ = some (.int .i64 0) := (blk_cell HP.out.ht 4).trans rfl; have hf4 := blk_frozen HP.out.ht 4) | (go_at_call 145; refine (number_parts.sign_st (w := w) (gt := gt) (c := #[.bool false, .string (⟨#[]⟩ : ByteArray), .string (⟨#[]⟩ : ByteArray), .string (⟨#[]⟩ : ByteArray), .int .i64 0]) (i := 0) ?st a0 ng HN.out (Nat.zero_le _) H0.out HNG.out).mono ?_; (case st => repeat (first | (with_reducible first | exact HP.out | apply number_parts.St.drewN | apply number_parts.St.drew | apply number_parts.St.setA0 | apply number_parts.St.setA | apply number_parts.St.setT) | exact (rfl : (_ : Array Value) = _))); rintro e w4 ⟨rfl, hp⟩; replace HP := Aside0.mk hp; clear hp; have hcs : w4.cell? ⟨gs, 0, none⟩ = some (.string s) := (blk_cell HP.out.two.hs 0).trans rfl; have hca : w4.cell? ⟨ga, 0, none⟩ = some (.int .i64 a0) := (blk_cell HP.out.two.ha 0).trans rfl; have hfa := blk_frozen HP.out.two.ha 0; have ht0 : w4.cell? ⟨gt, 0, none⟩ = some (.bool false) := (blk_cell HP.out.ht 0).trans rfl; have hf0 := blk_frozen HP.out.ht 0; have ht1 : w4.cell? ⟨gt, 1, none⟩ = some (.string (⟨#[]⟩ : ByteArray)) := (blk_cell HP.out.ht 1).trans rfl; have hf1 := blk_frozen HP.out.ht 1; have ht2 : w4.cell? ⟨gt, 2, none⟩ = some (.string (⟨#[]⟩ : ByteArray)) := (blk_cell HP.out.ht 2).trans rfl; have hf2 := blk_frozen HP.out.ht 2; have ht3 : w4.cell? ⟨gt, 3, none⟩ = some (.string (⟨#[]⟩ : ByteArray)) := (blk_cell HP.out.ht 3).trans rfl; have hf3 := blk_frozen HP.out.ht 3; have ht4 : w4.cell? ⟨gt, 4, none⟩ = some (.int .i64 0) := (blk_cell HP.out.ht 4).trans rfl; have hf4 := blk_frozen HP.out.ht 4) | (go_at_call 146; refine (number_parts.digits_st (w := w) (gt := gt) (c := #[.bool ng, .string (⟨#[]⟩ : ByteArray), .string (⟨#[]⟩ : ByteArray), .string (⟨#[]⟩ : ByteArray), .int .i64 0]) (i := a0) ?st a1 sw HN.out H0b.out H1.out HSW.out).mono ?_; (case st => repeat (first | (with_reducible first | exact HP.out | apply number_parts.St.drewN | apply number_parts.St.drew | apply number_parts.St.setA0 | apply number_parts.St.setA | apply number_parts.St.setT) | exact (rfl : (_ : Array Value) = _))); rintro e w5 ⟨rfl, hp⟩; replace HP := Aside0.mk hp; clear hp; have hcs : w5.cell? ⟨gs, 0, none⟩ = some (.string s) := (blk_cell HP.out.two.hs 0).trans rfl; have hca : w5.cell? ⟨ga, 0, none⟩ = some (.int .i64 a1) := (blk_cell HP.out.two.ha 0).trans rfl; have hfa := blk_frozen HP.out.two.ha 0; have ht0 : w5.cell? ⟨gt, 0, none⟩ = some (.bool ng) := (blk_cell HP.out.ht 0).trans rfl; have hf0 := blk_frozen HP.out.ht 0; have ht1 : w5.cell? ⟨gt, 1, none⟩ = some (.string (⟨#[]⟩ : ByteArray)) := (blk_cell HP.out.ht 1).trans rfl; have hf1 := blk_frozen HP.out.ht 1; have ht2 : w5.cell? ⟨gt, 2, none⟩ = some (.string (⟨#[]⟩ : ByteArray)) := (blk_cell HP.out.ht 2).trans rfl; have hf2 := blk_frozen HP.out.ht 2; have ht3 : w5.cell? ⟨gt, 3, none⟩ = some (.string (⟨#[]⟩ : ByteArray)) := (blk_cell HP.out.ht 3).trans rfl; have hf3 := blk_frozen HP.out.ht 3; have ht4 : w5.cell? ⟨gt, 4, none⟩ = some (.int .i64 0) := (blk_cell HP.out.ht 4).trans rfl; have hf4 := blk_frozen HP.out.ht 4))
 go_cut [24] (fun v24 wc => v24 = .bool bd ∧ Aside0 (number_parts.St w wc gs gt ga s #[.bool ng, .string sw, .string (⟨#[]⟩ : ByteArray), .string (⟨#[]⟩ : ByteArray), .int .i64 0] a1))
 case first =>
  by_cases d1 : a1 < s.size
  ·obtain ⟨qa, qb, qc, qd, qe, qf⟩ := number_parts.at_in d1
   have d2 : bd = (bt s (a1 : Nat) == 46) := by rw [HBD.out]; unfold number_parts.isDot; rw [qd]; rfl
   have HD2 := Aside0.mk d2
   clear d1 d2
   go_wp2
   go_meet
   case rel => exact ⟨by rw [HD2.out], ⟨by repeat (first | (with_reducible first | exact HP.out | apply number_parts.St.drewN | apply number_parts.St.drew | apply number_parts.St.setA0 | apply number_parts.St.setA | apply number_parts.St.setT) | exact (rfl : (_ : Array Value) = _))⟩⟩
  ·obtain ⟨qa, qb⟩ := number_parts.at_out d1
   have d2 : bd = false := by rw [HBD.out]; unfold number_parts.isDot; rw [qb]; rfl
   have HD2 := Aside0.mk d2
   clear d1 d2
   go_wp2
   go_meet
   case rel => exact ⟨by rw [HD2.out], ⟨by repeat (first | (with_reducible first | exact HP.out | apply number_parts.St.drewN | apply number_parts.St.drew | apply number_parts.St.setA0 | apply number_parts.St.setA | apply number_parts.St.setT) | exact (rfl : (_ : Array Value) = _))⟩⟩
 case rest =>
  obtain ⟨rfl, HP⟩ := hcut
  have hcs : wc.cell? ⟨gs, 0, none⟩ = some (.string s) := (blk_cell HP.out.two.hs 0).trans rfl
  have hca : wc.cell? ⟨ga, 0, none⟩ = some (.int .i64 a1) := (blk_cell HP.out.two.ha 0).trans rfl
  have hfa := blk_frozen HP.out.two.ha 0
  have ht0 : wc.cell? ⟨gt, 0, none⟩ = some (.bool ng) := (blk_cell HP.out.ht 0).trans rfl
  have hf0 := blk_frozen HP.out.ht 0
  have ht1 : wc.cell? ⟨gt, 1, none⟩ = some (.string sw) := (blk_cell HP.out.ht 1).trans rfl
  have hf1 := blk_frozen HP.out.ht 1
  have ht2 : wc.cell? ⟨gt, 2, none⟩ = some (.string (⟨#[]⟩ : ByteArray)) := (blk_cell HP.out.ht 2).trans rfl
  have hf2 := blk_frozen HP.out.ht 2
  have ht3 : wc.cell? ⟨gt, 3, none⟩ = some (.string (⟨#[]⟩ : ByteArray)) := (blk_cell HP.out.ht 3).trans rfl
  have hf3 := blk_frozen HP.out.ht 3
  have ht4 : wc.cell? ⟨gt, 4, none⟩ = some (.int .i64 0) := (blk_cell HP.out.ht 4).trans rfl
  have hf4 := blk_frozen HP.out.ht 4
  go_upto_if 24 with (fail)
  go_cut [] (fun wc => Aside0 (number_parts.St w wc gs gt ga s #[.bool ng, .string sw, .string p, .string (⟨#[]⟩ : ByteArray), .int .i64 0] a2))
  case first =>
   rcases HD.out with ⟨d1, d2, d3⟩ | ⟨d1, d2, d3, d4⟩ | ⟨d1, d2, d3, d4, d5, d6⟩ | ⟨d1, d2, d3, d4, d5, d6⟩
   ·have d4 : bd = false := by rw [HBD.out]; unfold number_parts.isDot; rw [decide_eq_false d1]; rfl
    subst d4
    replace d2 := Aside0.mk d2
    replace d3 := Aside0.mk d3
    clear d1
    go_wp2
    go_meet
    case rel =>
     rw [d2.out, d3.out]
     exact ⟨by repeat (first | (with_reducible first | exact HP.out | apply number_parts.St.drewN | apply number_parts.St.drew | apply number_parts.St.setA0 | apply number_parts.St.setA | apply number_parts.St.setT) | exact (rfl : (_ : Array Value) = _))⟩
   ·have d5 : bd = false := by rw [HBD.out]; unfold number_parts.isDot; rw [d2, Bool.and_false]
    subst d5
    replace d3 := Aside0.mk d3
    replace d4 := Aside0.mk d4
    clear d1 d2
    go_wp2
    go_meet
    case rel =>
     rw [d3.out, d4.out]
     exact ⟨by repeat (first | (with_reducible first | exact HP.out | apply number_parts.St.drewN | apply number_parts.St.drew | apply number_parts.St.setA0 | apply number_parts.St.setA | apply number_parts.St.setT) | exact (rfl : (_ : Array Value) = _))⟩
   ·have HPP := Aside0.mk d5.symm
    have HP2 := Aside0.mk (HP1.out d1)
    have HB3 := Aside0.mk (HB1.out d1)
    have d7 : bp = true := hbp.symm.trans d4
    have d8 : bd = true := by rw [HBD.out]; unfold number_parts.isDot; rw [decide_eq_true d1, d2]; rfl
    replace d6 := Aside0.mk d6
    clear d1 d2 d4 d5 HP1 HB1
    have HP1 := HP2
    have HB1 := HB3
    subst d7
    subst d8
    have d9 := d3.symm
    subst d9
    go_wp2_with (first | (go_at_call 146; refine (number_parts.digits_st (w := w) (gt := gt) (c := #[.bool ng, .string sw, .string (⟨#[]⟩ : ByteArray), .string (⟨#[]⟩ : ByteArray), .int .i64 0]) (i := b1) ?st b1 p HN.out HB1.out HP1.out HPP.out).mono ?_; (case st => repeat (first | (with_reducible first | exact HP.out | apply number_parts.St.drewN | apply number_parts.St.drew | apply number_parts.St.setA0 | apply number_parts.St.setA | apply number_parts.St.setT) | exact (rfl : (_ : Array Value) = _))); rintro e w6 ⟨rfl, hp⟩; replace HP := Aside0.mk hp; clear hp; have hcs : w6.cell? ⟨gs, 0, none⟩ = some (.string s) := (blk_cell HP.out.two.hs 0).trans rfl; have hca : w6.cell? ⟨ga, 0, none⟩ = some (.int .i64 b1) := (blk_cell HP.out.two.ha 0).trans rfl; have hfa := blk_frozen HP.out.two.ha 0; have ht0 : w6.cell? ⟨gt, 0, none⟩ = some (.bool ng) := (blk_cell HP.out.ht 0).trans rfl; have hf0 := blk_frozen HP.out.ht 0; have ht1 : w6.cell? ⟨gt, 1, none⟩ = some (.string sw) := (blk_cell HP.out.ht 1).trans rfl; have hf1 := blk_frozen HP.out.ht 1; have ht2 : w6.cell? ⟨gt, 2, none⟩ = some (.string (⟨#[]⟩ : ByteArray)) := (blk_cell HP.out.ht 2).trans rfl; have hf2 := blk_frozen HP.out.ht 2; have ht3 : w6.cell? ⟨gt, 3, none⟩ = some (.string (⟨#[]⟩ : ByteArray)) := (blk_cell HP.out.ht 3).trans rfl; have hf3 := blk_frozen HP.out.ht 3; have ht4 : w6.cell? ⟨gt, 4, none⟩ = some (.int .i64 0) := (blk_cell HP.out.ht 4).trans rfl; have hf4 := blk_frozen HP.out.ht 4))
    go_meet
    case rel =>
     rw [d6.out]
     exact ⟨by repeat (first | (with_reducible first | exact HP.out | apply number_parts.St.drewN | apply number_parts.St.drew | apply number_parts.St.setA0 | apply number_parts.St.setA | apply number_parts.St.setT) | exact (rfl : (_ : Array Value) = _))⟩
   ·have HPP := Aside0.mk d5.symm
    have HP2 := Aside0.mk (HP1.out d1)
    have HB3 := Aside0.mk (HB1.out d1)
    have d7 : bp = false := hbp.symm.trans d4
    have d8 : bd = true := by rw [HBD.out]; unfold number_parts.isDot; rw [decide_eq_true d1, d2]; rfl
    replace d6 := Aside0.mk d6
    clear d1 d2 d3 d4 d5 HP1 HB1
    have HP1 := HP2
    have HB1 := HB3
    subst d7
    subst d8
    go_wp2_with (first | (go_at_call 146; refine (number_parts.digits_st (w := w) (gt := gt) (c := #[.bool ng, .string sw, .string (⟨#[]⟩ : ByteArray), .string (⟨#[]⟩ : ByteArray), .int .i64 0]) (i := b1) ?st p1 p HN.out HB1.out HP1.out HPP.out).mono ?_; (case st => repeat (first | (with_reducible first | exact HP.out | apply number_parts.St.drewN | apply number_parts.St.drew | apply number_parts.St.setA0 | apply number_parts.St.setA | apply number_parts.St.setT) | exact (rfl : (_ : Array Value) = _))); rintro e w6 ⟨rfl, hp⟩; replace HP := Aside0.mk hp; clear hp; have hcs : w6.cell? ⟨gs, 0, none⟩ = some (.string s) := (blk_cell HP.out.two.hs 0).trans rfl; have hca : w6.cell? ⟨ga, 0, none⟩ = some (.int .i64 p1) := (blk_cell HP.out.two.ha 0).trans rfl; have hfa := blk_frozen HP.out.two.ha 0; have ht0 : w6.cell? ⟨gt, 0, none⟩ = some (.bool ng) := (blk_cell HP.out.ht 0).trans rfl; have hf0 := blk_frozen HP.out.ht 0; have ht1 : w6.cell? ⟨gt, 1, none⟩ = some (.string sw) := (blk_cell HP.out.ht 1).trans rfl; have hf1 := blk_frozen HP.out.ht 1; have ht2 : w6.cell? ⟨gt, 2, none⟩ = some (.string (⟨#[]⟩ : ByteArray)) := (blk_cell HP.out.ht 2).trans rfl; have hf2 := blk_frozen HP.out.ht 2; have ht3 : w6.cell? ⟨gt, 3, none⟩ = some (.string (⟨#[]⟩ : ByteArray)) := (blk_cell HP.out.ht 3).trans rfl; have hf3 := blk_frozen HP.out.ht 3; have ht4 : w6.cell? ⟨gt, 4, none⟩ = some (.int .i64 0) := (blk_cell HP.out.ht 4).trans rfl; have hf4 := blk_frozen HP.out.ht 4))
    go_meet
    case rel =>
     rw [d6.out]
     exact ⟨by repeat (first | (with_reducible first | exact HP.out | apply number_parts.St.drewN | apply number_parts.St.drew | apply number_parts.St.setA0 | apply number_parts.St.setA | apply number_parts.St.setT) | exact (rfl : (_ : Array Value) = _))⟩
  case rest =>
   have HP := hcut
   clear hcut
   have hcs : wc.cell? ⟨gs, 0, none⟩ = some (.string s) := (blk_cell HP.out.two.hs 0).trans rfl
   have hca : wc.cell? ⟨ga, 0, none⟩ = some (.int .i64 a2) := (blk_cell HP.out.two.ha 0).trans rfl
   have hfa := blk_frozen HP.out.two.ha 0
   have ht0 : wc.cell? ⟨gt, 0, none⟩ = some (.bool ng) := (blk_cell HP.out.ht 0).trans rfl
   have hf0 := blk_frozen HP.out.ht 0
   have ht1 : wc.cell? ⟨gt, 1, none⟩ = some (.string sw) := (blk_cell HP.out.ht 1).trans rfl
   have hf1 := blk_frozen HP.out.ht 1
   have ht2 : wc.cell? ⟨gt, 2, none⟩ = some (.string p) := (blk_cell HP.out.ht 2).trans rfl
   have hf2 := blk_frozen HP.out.ht 2
   have ht3 : wc.cell? ⟨gt, 3, none⟩ = some (.string (⟨#[]⟩ : ByteArray)) := (blk_cell HP.out.ht 3).trans rfl
   have hf3 := blk_frozen HP.out.ht 3
   have ht4 : wc.cell? ⟨gt, 4, none⟩ = some (.int .i64 0) := (blk_cell HP.out.ht 4).trans rfl
   have hf4 := blk_frozen HP.out.ht 4
   go_upto_region 11 with (fail)
   go_cut [42] (fun v42 wc => v42 = .bool true ∧ Aside0 (number_parts.St w wc gs gt ga s #[.bool ng, .string sw, .string p, .string (⟨#[]⟩ : ByteArray), .int .i64 0] a2))
   case first =>
    obtain ⟨z1, z2⟩ := Bool.and_eq_true_iff.1 hZ
    subst z1
    subst z2
    go_wp2
    go_meet
    case rel => exact ⟨rfl, ⟨by repeat (first | (with_reducible first | exact HP.out | apply number_parts.St.drewN | apply number_parts.St.drew | apply number_parts.St.setA0 | apply number_parts.St.setA | apply number_parts.St.setT) | exact (rfl : (_ : Array Value) = _))⟩⟩
   case rest =>
    obtain ⟨rfl, HP⟩ := hcut
    have hcs : wc.cell? ⟨gs, 0, none⟩ = some (.string s) := (blk_cell HP.out.two.hs 0).trans rfl
    have hca : wc.cell? ⟨ga, 0, none⟩ = some (.int .i64 a2) := (blk_cell HP.out.two.ha 0).trans rfl
    have hfa := blk_frozen HP.out.two.ha 0
    have ht0 : wc.cell? ⟨gt, 0, none⟩ = some (.bool ng) := (blk_cell HP.out.ht 0).trans rfl
    have hf0 := blk_frozen HP.out.ht 0
    have ht1 : wc.cell? ⟨gt, 1, none⟩ = some (.string sw) := (blk_cell HP.out.ht 1).trans rfl
    have hf1 := blk_frozen HP.out.ht 1
    have ht2 : wc.cell? ⟨gt, 2, none⟩ = some (.string p) := (blk_cell HP.out.ht 2).trans rfl
    have hf2 := blk_frozen HP.out.ht 2
    have ht3 : wc.cell? ⟨gt, 3, none⟩ = some (.string (⟨#[]⟩ : ByteArray)) := (blk_cell HP.out.ht 3).trans rfl
    have hf3 := blk_frozen HP.out.ht 3
    have ht4 : wc.cell? ⟨gt, 4, none⟩ = some (.int .i64 0) := (blk_cell HP.out.ht 4).trans rfl
    have hf4 := blk_frozen HP.out.ht 4
    go_wp2
    refine bodyPost_ret (results_cell_row rfl _ _ gt 134 #[.bool false, .string (⟨#[]⟩ : ByteArray), .string (⟨#[]⟩ : ByteArray), .string (⟨#[]⟩ : ByteArray), .int .i64 0] (0, 0) _ rfl (show _ from (by repeat (first | (with_reducible first | exact HP.out | apply number_parts.St.drewN | apply number_parts.St.drew | apply number_parts.St.setA0 | apply number_parts.St.setA | apply number_parts.St.setT) | exact (rfl : (_ : Array Value) = _)) : number_parts.St w _ gs gt ga s #[.bool false, .string (⟨#[]⟩ : ByteArray), .string (⟨#[]⟩ : ByteArray), .string (⟨#[]⟩ : ByteArray), .int .i64 0] _).ht) Tryz.underlying134 rfl (by kernel_rfl)) rfl ?_
    exact ⟨rfl, (by repeat (first | (with_reducible first | exact HP.out | apply number_parts.St.drewN | apply number_parts.St.drew | apply number_parts.St.setA0 | apply number_parts.St.setA | apply number_parts.St.setT) | exact (rfl : (_ : Array Value) = _)) : number_parts.St w _ gs gt ga s #[.bool false, .string (⟨#[]⟩ : ByteArray), .string (⟨#[]⟩ : ByteArray), .string (⟨#[]⟩ : ByteArray), .int .i64 0] _).b⟩

theorem number_parts.calls (a0 : ByteArray) (r1 : Bool) (r2 r3 r4 : ByteArray) (r5 : Int) (w : World) (h : number_parts.f a0 = some (r1, r2, r3, r4, r5)) :
  Calls Tryz.prog 123 #[.string a0] w fun e w' => e = .returned (.agg #[.bool r1, .string r2, .string r3, .string r4, .int .i64 r5]) ∧ Below w.heap.size w w' := by
 unfold number_parts.f at h
 by_cases hs : a0.size ≤ 140737488351232
 ·rw [if_pos hs] at h
  have b0 := number_parts.sgn_bd a0 0 (Nat.zero_le _)
  have b1 := number_parts.stop_bd a0 (number_parts.w0 a0) b0.2.1
  have hsw := number_parts.cut_empty (s := a0) b1.1 b1.2
  have hway := number_parts.dot_way a0 b1.2
  have bp : number_parts.w1 a0 < a0.size → number_parts.w1 a0 + 1 ≤ number_parts.stop a0 (number_parts.w1 a0 + 1) ∧ number_parts.stop a0 (number_parts.w1 a0 + 1) ≤ a0.size := fun hl => number_parts.stop_bd a0 _ hl
  have hp : ((number_parts.part a0).toList == ([] : List UInt8)) = decide (number_parts.at2 a0 = number_parts.w1 a0) ∧ number_parts.at2 a0 ≤ a0.size := by
   have e0 : ((⟨#[]⟩ : ByteArray).toList == ([] : List UInt8)) = true := by rw [ByteArray.toList_eq]; rfl
   rcases hway with ⟨d1, d2, d3⟩ | ⟨d1, d2, d3, d4⟩ | ⟨d1, d2, d3, d4, d5, d6⟩ | ⟨d1, d2, d3, d4, d5, d6⟩
   ·rw [d2, d3, e0, decide_eq_true rfl]
    exact ⟨rfl, b1.2⟩
   ·rw [d3, d4, e0, decide_eq_true rfl]
    exact ⟨rfl, b1.2⟩
   ·rw [d4, d6, decide_eq_true rfl]
    exact ⟨rfl, b1.2⟩
   ·rw [d4, d6, decide_eq_false (by omega)]
    exact ⟨rfl, (bp d1).2⟩
  have hsw' : ((a0.extract (number_parts.w0 a0) (number_parts.w1 a0)).toList == ([] : List UInt8)) = decide (number_parts.w0 a0 = number_parts.w1 a0) := hsw
  by_cases hz : number_parts.w1 a0 = number_parts.w0 a0 ∧ number_parts.at2 a0 = number_parts.w1 a0
  ·rw [if_pos hz] at h
   simp only [Option.some.injEq, Prod.mk.injEq] at h
   obtain ⟨rfl, rfl, rfl, rfl, rfl⟩ := h
   exact number_parts.walk0 a0 (a0.extract (number_parts.w0 a0) (number_parts.w1 a0)) (number_parts.part a0) _ ⟨#[]⟩ _ (number_parts.neg a0 (number_parts.at2 a0 + 1)) _ _ _ _ _ _ (number_parts.sgn a0 (number_parts.at2 a0 + 1)) _ 0 w hs rfl rfl b0.2.1 rfl b1.2 rfl rfl hway (fun _ => rfl) hp.2 rfl
    (by rw [hsw', hp.1, decide_eq_true hz.1.symm, decide_eq_true hz.2]; rfl) (fun _ => rfl) rfl (fun hl => (number_parts.sgn_bd a0 _ hl).2.1) (fun _ => rfl) rfl (fun hl => by have := number_parts.sgn_bd a0 (number_parts.at2 a0 + 1) hl; have := number_parts.stop_bd a0 _ this.2.1; omega)
  ·rw [if_neg hz] at h
   simp only [Option.some.injEq, Prod.mk.injEq] at h
   obtain ⟨rfl, rfl, rfl, rfl, rfl⟩ := h
   have hE := number_parts.exp_way a0 hp.2
   have k := number_parts.walk a0 (a0.extract (number_parts.w0 a0) (number_parts.w1 a0)) (number_parts.part a0) _ (if number_parts.hasE a0 = true then a0.extract (number_parts.at2 a0 + 1) (number_parts.x1 a0) else ⟨#[]⟩) _ (number_parts.neg a0 (number_parts.at2 a0 + 1)) _ _ _ _ _ _ _ _ (if number_parts.hasE a0 = true then number_parts.x1 a0 else number_parts.at2 a0) w hs rfl rfl b0.2.1 rfl b1.2 rfl rfl hway (fun _ => rfl) hp.2 rfl
    (by rw [hsw', hp.1]; exact Bool.and_eq_false_iff.2 ((Decidable.em (number_parts.w0 a0 = number_parts.w1 a0)).elim (fun h1 => .inr (decide_eq_false (fun h2 => hz ⟨h1.symm, h2⟩))) (fun h1 => .inl (decide_eq_false h1)))) hE (fun _ => rfl) rfl (fun hl => (number_parts.sgn_bd a0 _ hl).2.1) (fun _ => rfl) rfl (fun hl => by have := number_parts.sgn_bd a0 (number_parts.at2 a0 + 1) hl; have := number_parts.stop_bd a0 _ this.2.1; exact ⟨by unfold number_parts.x1 number_parts.x0; omega, this.2⟩)
   refine k.mono fun e w' hk => ⟨?_, hk.2⟩
   rw [hk.1]
   cases number_parts.hasE a0 <;> rfl
 ·rw [if_neg hs] at h
  cases h

/-! ### number_Scan: function 101 -/
def number_Scan.f (a0 : ByteArray) : Option (Int) := (number_parts.f a0).bind fun bt161 => (some bt161.2.2.2.2)
set_option maxHeartbeats 8000000 in
set_option maxRecDepth 100000 in
theorem number_Scan.calls (a0 : ByteArray) (r : Int) (w : World) (h : number_Scan.f a0 = some r) :
  Calls Tryz.prog 101 #[.string a0] w fun e w' => e = .returned (.int .i64 r) ∧ Below w.heap.size w w' := by
 have hu134 := Tryz.underlying134
 have hfl134_4 : ∀ (c0 c1 c2 c3 c4 : Value) (W : World), (Instr.field 134 (.agg #[c0, c1, c2, c3, c4]) 4).run Tryz.prog W = .ok (c4) W := fun c0 c1 c2 c3 c4 W => by first | rfl | kernel_rfl
 have HB := Aside0.mk (Below.refl w.heap.size w)
 have H : ((number_parts.f a0).bind fun bt161 => (some bt161.2.2.2.2)) = some r := h
 clear h
 replace H := Option.bind_eq_some_iff.mp H
 obtain ⟨⟨t161, t162, t163, t164, t165⟩, A20, H⟩ := H
 try dsimp only at H
 have A2 := Aside0.mk A20
 clear A20
 obtain rfl := Option.some.inj H
 go_enter Tryz.func101, Tryz.ntmps101
 go_wp2_with (first | ((with_reducible refine gate_callee (f := 123) rfl ?_); refine goesL_ (some 4) rfl rfl Tryz.func123 (by kernel_rfl) rfl #[.string a0] rfl goa_ ?_; (with_reducible refine (number_parts.calls a0 t161 t162 t163 t164 t165 _ A2.out).mono ?_); rintro e w3 ⟨rfl, hb⟩; refine ⟨_, rfl, ?_⟩; have n0_ := Aside0.mk (below_step bel_ hb); clear HB; have HB := n0_; clear n0_; clear hb))
 go_ret
 exact ⟨rsl_, bel_⟩

/-! ### token_lexer_word_1: function 103 -/
def token_lexer_word_1.f (a0 : Int) : Option (Bool) := some (a0 == 37)
set_option maxHeartbeats 8000000 in
set_option maxRecDepth 100000 in
theorem token_lexer_word_1.calls (a0 : Int) (r : Bool) (w : World) (h : token_lexer_word_1.f a0 = some r) :
  Calls Tryz.prog 103 #[.int .u8 a0] w fun e w' => e = .returned (.bool r) ∧ Drawn0 w w' := by
 have H : (some (a0 == 37)) = some r := h
 clear h
 obtain rfl := Option.some.inj H
 go_enter Tryz.func103, Tryz.ntmps103
 go_wp2
 go_ret
 exact ⟨by first | rfl | (simp; done) | (simp [*]; done), drs_⟩

/-! ### token_lexer_word_2: function 106 -/
def token_lexer_word_2.f (a0 : Int) : Option (Bool) := some (a0 == 40)
set_option maxHeartbeats 8000000 in
set_option maxRecDepth 100000 in
theorem token_lexer_word_2.calls (a0 : Int) (r : Bool) (w : World) (h : token_lexer_word_2.f a0 = some r) :
  Calls Tryz.prog 106 #[.int .u8 a0] w fun e w' => e = .returned (.bool r) ∧ Drawn0 w w' := by
 have H : (some (a0 == 40)) = some r := h
 clear h
 obtain rfl := Option.some.inj H
 go_enter Tryz.func106, Tryz.ntmps106
 go_wp2
 go_ret
 exact ⟨by first | rfl | (simp; done) | (simp [*]; done), drs_⟩

end Go.Proofs.YtofdhdafabmhmaaGreatDoor.PAr
end
