-- Written by a program of this session (wip/p2) out of the translation; Lean checks it.
import Derived.Test.YtfccpnpocfjbcaaSq
import Derived.Test.YtfccpnpocfjbcaaPTkx0
import Derived.Test.YtfccpnpocfjbcaaPTkx6
import Derived.Test.YtfccpnpocfjbcaaPTkx15
import Derived.Test.YtfccpnpocfjbcaaGbuilder
import Derived.Test.YtfccpnpocfjbcaaShelf
namespace Go.Proofs.Ytfccpnpocfjbcaa.PTk
open Go.RowKit Go.Proofs.YtfccpnpocfjbcaaW.PrintWords Go.Proofs.YtfccpnpocfjbcaaW.PrintLast Go.Proofs.YtfccpnpocfjbcaaW.PrintMore
attribute [local go_sem] max2_int min2_int max_two min_two max_three min_three max_four min_four   -- for this text's walks alone
set_option linter.unusedVariables false
set_option linter.unusedSimpArgs false
open Go.Proofs.Ytfccpnpocfjbcaa.Opn Go.Proofs.Ytfccpnpocfjbcaa.Giv

/-! ### ident_Write: function 15 -/
def ident_Write.sub (s : ByteArray) (i : Int) : ByteArray := s.extract i.toNat (wrap64 (i + 1)).toNat
def ident_Write.first (s : ByteArray) (i : Int) : Bool := decide (i = 0) || (decide (i = 1) && decide (bt s 0 = 45))
def ident_Write.one (s : ByteArray) (i : Int) : Option ByteArray :=
 (token_Letter.f (bt s i)).bind fun t1 => (ident_digit.f (bt s i)).bind fun t2 => (ident_control.f (bt s i)).bind fun t3 => (ident_escaped.f (bt s i)).bind fun t4 =>
  some (if t1 = true then ident_Write.sub s i else if bt s i = 45 ∧ 1 < (s.size : Int) then ident_Write.sub s i else if t2 = true ∧ ident_Write.first s i = false then ident_Write.sub s i
   else if t2 = true then t4 else if t3 = true then t4 else (⟨#[92]⟩ : ByteArray) ++ ident_Write.sub s i)

/-- The pieces of the first bytes, one behind the other. -/
def ident_Write.cat (s : ByteArray) : Nat → Option (List UInt8)
 | 0 => some []
 | n + 1 => (ident_Write.cat s n).bind fun l => (ident_Write.one s n).bind fun r => if r.size ≤ 8 then some (l ++ r.data.toList) else none
theorem ident_Write.cat_lt (s : ByteArray) : ∀ {n : Nat} {l : List UInt8}, ident_Write.cat s n = some l → ∀ {i : Nat}, i < n → ∃ c r, ident_Write.cat s i = some c ∧ ident_Write.one s i = some r ∧ r.size ≤ 8 ∧ ident_Write.cat s (i + 1) = some (c ++ r.data.toList)
 | 0, _, _, _, h => absurd h (Nat.not_lt_zero _)
 | n + 1, l, h, i, hi => by
  simp only [ident_Write.cat] at h
  obtain ⟨c, h1, h⟩ := Option.bind_eq_some_iff.1 h
  obtain ⟨r, h2, h⟩ := Option.bind_eq_some_iff.1 h
  by_cases h3 : r.size ≤ 8
  ·rw [if_pos h3] at h
   rcases Nat.lt_or_ge i n with h4 | h4
   ·exact ident_Write.cat_lt s h1 h4
   ·obtain rfl : i = n := by omega
    refine ⟨c, r, h1, h2, h3, ?_⟩
    show (ident_Write.cat s i).bind _ = _
    rw [h1]
    show (ident_Write.one s i).bind _ = _
    rw [h2]
    exact if_pos h3
  ·rw [if_neg h3] at h
   cases h
theorem ident_Write.cat_len (s : ByteArray) : ∀ (n : Nat) (l : List UInt8), ident_Write.cat s n = some l → l.length ≤ n * 8
 | 0, l, h => by
  obtain rfl := Option.some.inj h
  simp
 | n + 1, l, h => by
  simp only [ident_Write.cat] at h
  obtain ⟨c, h1, h⟩ := Option.bind_eq_some_iff.1 h
  obtain ⟨r, h2, h⟩ := Option.bind_eq_some_iff.1 h
  by_cases h3 : r.size ≤ 8
  ·rw [if_pos h3] at h
   obtain rfl := Option.some.inj h
   have := ident_Write.cat_len s n c h1
   have h5 : r.data.toList.length = r.size := by simp
   rw [List.length_append, h5]
   omega
  ·rw [if_neg h3] at h
   cases h

set_option maxHeartbeats 8000000 in
set_option maxRecDepth 100000 in
theorem ident_Write.one_calls (cb : Nat) (i : Int) (s : ByteArray) (r : ByteArray) (w : World) (hi0 : 0 ≤ i) (hi1 : i < (s.size : Int)) (hc : w.cell? ⟨cb, 0, none⟩ = some (.string s)) (hs : s.size ≤ 1000000) (h : ident_Write.one s i = some r) :
  Calls Try.prog 31 #[.int .i64 i, .int .u8 (bt s i), .pointer (some ⟨cb, 0, none⟩)] w fun e w' => e = .returned (.string r) ∧ Drawn0 w w' := by
 obtain ⟨t1, ht1, h⟩ := Option.bind_eq_some_iff.1 h
 obtain ⟨t2, ht2, h⟩ := Option.bind_eq_some_iff.1 h
 obtain ⟨t3, ht3, h⟩ := Option.bind_eq_some_iff.1 h
 obtain ⟨t4, ht4, h⟩ := Option.bind_eq_some_iff.1 h
 replace h := Option.some.inj h
 have T1 := Aside0.mk ht1
 have T2 := Aside0.mk ht2
 have T3 := Aside0.mk ht3
 have T4 := Aside0.mk ht4
 clear ht1 ht2 ht3 ht4
 have hx0 : ∀ h : 0 < s.size, ((s[0].toNat : Nat) : Int) = bt s 0 := fun h => bt_at s 0 h
 have k0 : ((0 : Int) < (s.size : Int)) = True := eq_true (by omega)
 have k0b : (0 < s.size) = True := eq_true (by omega)
 have hw1 : wrap64 (i + 1) = i + 1 := by unfold wrap64; omega
 have q0 : (0 ≤ i) = True := eq_true hi0
 have q2 : (i ≤ wrap64 (i + 1)) = True := eq_true (by omega)
 have q3 : (wrap64 (i + 1) ≤ (s.size : Int)) = True := eq_true (by omega)
 have q2b : decide (i ≤ wrap64 (i + 1)) = true := decide_eq_true (by omega)
 have q3b : decide (wrap64 (i + 1) ≤ (s.size : Int)) = true := decide_eq_true (by omega)
 have q0b : decide (0 ≤ i) = true := decide_eq_true hi0
 have qs : (1 + (s.extract i.toNat (wrap64 (i + 1)).toNat).size ≤ 9223372036854775807) = True := eq_true (by rw [ByteArray.size_extract]; omega)
 have qs2 : (9223372036854775807 < 1 + (s.extract i.toNat (wrap64 (i + 1)).toNat).size) = False := eq_false (by rw [ByteArray.size_extract]; omega)
 have qs3 : (9223372036854775807 < 1 + ((wrap64 (i + 1)).toNat - i.toNat)) = False := eq_false (by rw [hw1]; omega)
 have hF : (∃ b0 b1 b2 : Bool, (i == 0) = b0 ∧ (i == 1) = b1 ∧ (bt s 0 == 45) = b2 ∧ ident_Write.first s i = (b0 || (b1 && b2))) := ⟨_, _, _, rfl, rfl, rfl, rfl⟩
 obtain ⟨b0, b1, b2, p0, p1, p2, hF⟩ := hF
 have hD : (∃ b3 b4 : Bool, (bt s i == 45) = b3 ∧ decide (1 < (s.size : Int)) = b4 ∧ decide (1 < s.size) = b4) := ⟨_, _, rfl, rfl, by simp only [decide_eq_decide]; omega⟩
 obtain ⟨b3, b4, p3, p4, p4b⟩ := hD
 have h' : r = (if t1 = true then ident_Write.sub s i else if b3 = true ∧ b4 = true then ident_Write.sub s i else if t2 = true ∧ (b0 || (b1 && b2)) = false then ident_Write.sub s i
   else if t2 = true then t4 else if t3 = true then t4 else (⟨#[92]⟩ : ByteArray) ++ ident_Write.sub s i) := by
  rw [← h, hF]
  simp only [← p3, ← p4, beq_iff_eq, decide_eq_true_eq]
 unfold ident_Write.sub at h'
 clear h hF hw1 hi0 hi1 hs
 have HP : (b0 = true) ∨ (b0 = false ∧ b1 = true) ∨ (b0 = false ∧ b1 = false) := by cases b0 <;> cases b1 <;> simp
 rcases HP with rfl | ⟨rfl, rfl⟩ | ⟨rfl, rfl⟩
 all_goals
  cases t1 with
  | true =>
   simp only [if_pos] at h'
   subst h'
   go_enter Try.func31, Try.ntmps31
   go_wp2_with (first
    | (go_at_call 11; refine (token_Letter.calls _ _ _ T1.out).mono ?_; rintro e w5 ⟨rfl, ⟨nd, rfl⟩⟩))
   go_ret
   exact ⟨rfl, by repeat (first | exact Drawn0.refl _ | apply Drawn0.step)⟩
  | false =>
   simp only [Bool.false_eq_true, if_false] at h'
   have HQ : (b3 = true ∧ b4 = true) ∨ (b3 = true ∧ b4 = false) ∨ b3 = false := by cases b3 <;> cases b4 <;> simp
   rcases HQ with ⟨rfl, rfl⟩ | HQ
   ·simp only [and_self, if_true] at h'
    subst h'
    go_enter Try.func31, Try.ntmps31
    go_wp2_with (first
     | (go_at_call 11; refine (token_Letter.calls _ _ _ T1.out).mono ?_; rintro e w5 ⟨rfl, ⟨nd, rfl⟩⟩))
    go_ret
    exact ⟨rfl, by repeat (first | exact Drawn0.refl _ | apply Drawn0.step)⟩
   ·rw [if_neg (by rcases HQ with ⟨_, h⟩ | h <;> simp [h])] at h'
    rcases HQ with ⟨rfl, rfl⟩ | rfl
    all_goals
     cases t2 with
     | true =>
      cases b2
      all_goals
       simp at h'
       subst h'
       go_enter Try.func31, Try.ntmps31
       go_wp2_with (first
        | (go_at_call 11; refine (token_Letter.calls _ _ _ T1.out).mono ?_; rintro e w5 ⟨rfl, ⟨nd, rfl⟩⟩)
        | (go_at_call 32; refine (ident_digit.calls _ _ _ T2.out).mono ?_; rintro e w5 ⟨rfl, ⟨nd2, rfl⟩⟩)
        | (go_at_call 34; refine (ident_escaped.calls _ _ _ T4.out).mono ?_; rintro e w5 ⟨rfl, ⟨nd4, rfl⟩⟩))
       go_ret
       exact ⟨rfl, by repeat (first | exact Drawn0.refl _ | apply Drawn0.step)⟩
     | false =>
      cases t3 <;> cases b2
      all_goals
       simp at h'
       subst h'
       go_enter Try.func31, Try.ntmps31
       go_wp2_with (first
        | (go_at_call 11; refine (token_Letter.calls _ _ _ T1.out).mono ?_; rintro e w5 ⟨rfl, ⟨nd, rfl⟩⟩)
        | (go_at_call 32; refine (ident_digit.calls _ _ _ T2.out).mono ?_; rintro e w5 ⟨rfl, ⟨nd2, rfl⟩⟩)
        | (go_at_call 33; refine (ident_control.calls _ _ _ T3.out).mono ?_; rintro e w5 ⟨rfl, ⟨nd3, rfl⟩⟩)
        | (go_at_call 34; refine (ident_escaped.calls _ _ _ T4.out).mono ?_; rintro e w5 ⟨rfl, ⟨nd4, rfl⟩⟩))
       go_ret
       exact ⟨rfl, by repeat (first | exact Drawn0.refl _ | apply Drawn0.step)⟩

theorem ident_Write.isB {T e : TypeId} {B b : Nat} {l : List Value} {w : World} (h : Lib.IsBuilder T e B b l w) (n : Nat) : Lib.IsBuilder T e B b l (w.drewN n) := h
theorem ident_Write.belowN {B : Nat} {a w : World} (h : Below B a w) (n : Nat) : Below B a (w.drewN n) := h.trans ⟨rfl, rfl, rfl, Nat.le_refl _, fun _ _ => rfl⟩
theorem ident_Write.built {T e : TypeId} {B b : Nat} {l : List UInt8} {r : ByteArray} {w : World} (h : Lib.BuilderAt T e B b (.pointer (some ⟨b, 0, none⟩)) (Lib.byteCells l ++ Lib.strCells r) w) : Lib.IsBuilder T e B b (Lib.byteCells (l ++ r.data.toList)) w := Or.inr (by
 unfold Lib.byteCells Lib.strCells at *
 rw [List.map_append]
 exact h)
theorem ident_Write.short {c : List UInt8} {r s : ByteArray} {i : Nat} (h1 : c.length ≤ i * 8) (h2 : r.size ≤ 8) (h3 : s.size ≤ 1000000) (h4 : (i : Int) < (s.size : Int)) : (Lib.byteCells c).length + r.size ≤ 140737488355328 := by
 unfold Lib.byteCells
 rw [List.length_map]
 omega
theorem ident_Write.next {i : Nat} {s : ByteArray} (h1 : (i : Int) < (s.size : Int)) (hs : s.size ≤ 1000000) : wrap64 ((i : Int) + 1) = ((i + 1 : Nat) : Int) := by
 unfold wrap64
 omega
theorem ident_Write.less {i : Nat} {s : ByteArray} (h1 : (i : Int) < (s.size : Int)) (hw : wrap64 ((i : Int) + 1) = ((i + 1 : Nat) : Int)) : s.size - (intOf (.int .i64 (wrap64 ((i : Int) + 1)))).toNat < s.size - (intOf (.int .i64 (i : Int))).toNat := by
 rw [hw]
 show s.size - (((i + 1 : Nat) : Int)).toNat < s.size - ((i : Int)).toNat
 rw [Int.toNat_natCast, Int.toNat_natCast]
 clear hw
 omega
theorem ident_Write.size_drewN {w wr : World} (h : w.heap.size ≤ wr.heap.size) (n : Nat) : w.heap.size ≤ (wr.drewN n).heap.size := h
theorem ident_Write.small {i : Int} {s : ByteArray} (h0 : 0 ≤ i) (h1 : i < (s.size : Int)) (hs : s.size ≤ 1000000) : wrap64 (i + 1) = i + 1 := by unfold wrap64; omega

set_option maxHeartbeats 4000000 in
set_option maxRecDepth 100000 in
theorem ident_Write.each_calls (cb : Nat) (s : ByteArray) (l : List UInt8) (w : World) (hc : w.cell? ⟨cb, 0, none⟩ = some (.string s)) (hs : s.size ≤ 1000000) (hl : ident_Write.cat s s.size = some l) :
  Calls Try.prog 30 #[.string s, .func (.func 31) #[] #[.pointer (some ⟨cb, 0, none⟩)]] w fun e w' => e = .returned (.string ⟨l.toArray⟩) ∧ Below w.heap.size w w' := by
 have hcl := World.block_lt_of_cell? w _ hc
 have HC := Aside0.mk hc
 have HL := Aside0.mk hl
 have HS := Aside0.mk hs
 clear hc hl hs
 go_enter Try.func30, Try.ntmps30
 go_wp2
 go_loopw [9] (fun v9 wr => ∃ (i : Nat) (c : List UInt8), i ≤ s.size ∧ v9 = .int .i64 i ∧ Aside0 (ident_Write.cat s i = some c) ∧ Aside0 (Lib.IsBuilder 61 5 w.heap.size w.heap.size (Lib.byteCells c) wr) ∧ Aside0 (Below w.heap.size w wr))
  (fun v9 _ => s.size - (intOf v9).toNat)
 case atStart => exact ⟨0, [], Nat.zero_le _, rfl, ⟨rfl⟩, ⟨Lib.fresh_isBuilder _ _ w⟩, ⟨(Below.refl _ _).alloc (Nat.le_refl _) _⟩⟩
 case round =>
  obtain ⟨i, c, hi, rfl, HK, HB, HW⟩ := hrel
  by_cases hlt : i < s.size
  ·have q0 : (0 ≤ (i : Int)) = True := eq_true (by omega)
   have q1 : ((i : Int) < (s.size : Int)) = True := eq_true (by omega)
   have q2 : decide ((i : Int) < (s.size : Int)) = true := decide_eq_true (by omega)
   have q3 : decide (i < s.size) = true := decide_eq_true hlt
   have hx : ∀ h : i < s.size, ((s[i].toNat : Nat) : Int) = bt s i := fun h => bt_at s i h
   have q4 : (i < s.size) = True := eq_true hlt
   obtain ⟨c', r, h1, h2, h3, h4⟩ := ident_Write.cat_lt s HL.out hlt
   obtain rfl := Option.some.inj (HK.out.symm.trans h1)
   have HN := Aside0.mk h4
   have HO := Aside0.mk h2
   have HR := Aside0.mk h3
   have hcw := (HW.out.cell hcl).trans HC.out
   have HCW := Aside0.mk hcw
   have HLEN := Aside0.mk (ident_Write.short (ident_Write.cat_len s i c HK.out) HR.out HS.out (q1.mpr trivial))
   have H0 := Aside0.mk (q0.mpr trivial)
   have H1 := Aside0.mk (q1.mpr trivial)
   have HSW := Aside0.mk HW.out.size
   clear h1 h2 h3 h4 hcw hlt hi
   go_wp2_with (first
    | (go_at_call 31; refine (ident_Write.one_calls cb i s r _ H0.out H1.out HCW.out HS.out HO.out).mono ?_; rintro e w5 ⟨rfl, ⟨nd, rfl⟩⟩)
    | (go_at_call 49; refine (Giv.writeString_calls w.heap.size w.heap.size (Lib.byteCells c) r _ ?g1 HLEN.out ?g2).mono ?_; (case g1 => repeat (first | (with_reducible exact HB.out) | (with_reducible apply ident_Write.isB))); (case g2 => exact HSW.out); rintro e w6 ⟨rfl, hb6, hbe6⟩; have HW6 := Aside0.mk (Below.trans (by repeat (first | (with_reducible exact HW.out) | (with_reducible apply ident_Write.belowN))) hbe6); clear hbe6))
   have HWR := Aside0.mk (ident_Write.next H1.out HS.out)
   go_roundw
   case rel => exact ⟨i + 1, c ++ r.data.toList, by have := H1.out; omega, by rw [HWR.out], HN, ⟨ident_Write.built hb6⟩, HW6⟩
   case measure => exact ident_Write.less H1.out HWR.out
  ·have hie : i = s.size := by omega
   subst hie
   have q2 : decide ((s.size : Int) < (s.size : Int)) = false := decide_eq_false (by omega)
   have q3 : decide (s.size < s.size) = false := decide_eq_false (by omega)
   obtain rfl := Option.some.inj (HK.out.symm.trans HL.out)
   have HSW := Aside0.mk HW.out.size
   clear hlt
   go_wp2_with (first
    | (go_at_call 50; refine (Try.Builder_String_any w.heap.size w.heap.size c _ HB.out HSW.out).mono ?_; rintro e w6 ⟨rfl, hb6⟩))
   go_ret
   exact ⟨rfl, HW.out.trans hb6⟩

theorem ident_Write.boxed (w : World) (s : ByteArray) (T : TypeId) : (w.alloc (.cells #[.string s] T)).cell? ⟨w.heap.size, 0, none⟩ = some (.string s) := by
 simp
theorem ident_Write.cellN {w : World} {p : Addr} {v : Value} (h : w.cell? p = some v) (n : Nat) : (w.drewN n).cell? p = some v := h
theorem ident_Write.belowA (w : World) (o : Obj) : Below w.heap.size w (w.alloc o) := below_alloc (Below.refl _ _) _

def ident_Write.f (s : ByteArray) : Option ByteArray := (ident_Name.f s).bind fun t => if t = true then (if s.size ≤ 1000000 then (ident_Write.cat s s.size).bind fun l => some ⟨l.toArray⟩ else none) else some ⟨#[]⟩
set_option maxHeartbeats 2000000 in
set_option maxRecDepth 100000 in
theorem ident_Write.calls (s : ByteArray) (r : ByteArray) (w : World) (h : ident_Write.f s = some r) :
  Calls Try.prog 15 #[.string s] w fun e w' => e = .returned (.string r) ∧ Below w.heap.size w w' := by
 obtain ⟨t, ht, h⟩ := Option.bind_eq_some_iff.1 h
 have HT := Aside0.mk ht
 clear ht
 cases t with
 | false =>
  obtain rfl := Option.some.inj h
  go_enter Try.func15, Try.ntmps15
  go_wp2_with (first
   | (go_at_call 16; refine (ident_Name.calls _ _ _ HT.out).mono ?_; rintro e w5 ⟨rfl, ⟨nd, rfl⟩⟩))
  go_ret
  exact ⟨rfl, by repeat (first | (with_reducible exact ident_Write.belowA _ _) | (with_reducible apply ident_Write.belowN))⟩
 | true =>
  rw [if_pos rfl] at h
  by_cases hs : s.size ≤ 1000000
  ·rw [if_pos hs] at h
   obtain ⟨l, hl, h⟩ := Option.bind_eq_some_iff.1 h
   obtain rfl := Option.some.inj h
   have HL := Aside0.mk hl
   have HS := Aside0.mk hs
   clear hl hs h
   go_enter Try.func15, Try.ntmps15
   go_wp2_with (first
    | (go_at_call 16; refine (ident_Name.calls _ _ _ HT.out).mono ?_; rintro e w5 ⟨rfl, ⟨nd, rfl⟩⟩)
    | (go_at_call 30; refine (ident_Write.each_calls w.heap.size s l _ ?g1 HS.out HL.out).mono ?_; (case g1 => repeat (first | (with_reducible exact ident_Write.boxed _ _ _) | (with_reducible apply ident_Write.cellN))); rintro e w6 ⟨rfl, hb6⟩; have HW6 := Aside0.mk (below_step (by repeat (first | (with_reducible exact ident_Write.belowA _ _) | (with_reducible apply ident_Write.belowN))) hb6); clear hb6))
   go_ret
   exact ⟨rfl, HW6.out⟩
  ·rw [if_neg hs] at h
   cases h

end Go.Proofs.Ytfccpnpocfjbcaa.PTk
