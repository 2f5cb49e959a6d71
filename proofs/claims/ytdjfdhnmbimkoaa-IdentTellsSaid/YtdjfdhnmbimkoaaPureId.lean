/- Names and texts as they are written (layer 4): the plain programs and the document's, byte for byte. Conditions: as each statement says. -/
import Derived.Test.YtdjfdhnmbimkoaaPIdx2
import Derived.Test.YtdjfdhnmbimkoaaPIdx4
import Derived.Test.YtdjfdhnmbimkoaaPIdx5
import Derived.Test.YtdjfdhnmbimkoaaPIdx6
import Derived.Test.YtdjfdhnmbimkoaaPIdx7
import Derived.Test.YtdjfdhnmbimkoaaPIdx9
import Derived.Test.YtdjfdhnmbimkoaaPIdx12
import Derived.Test.YtdjfdhnmbimkoaaPIdx13
import Derived.Test.YtdjfdhnmbimkoaaPIdx14
import Derived.Test.YtdjfdhnmbimkoaaPIdx15
import Derived.Test.YtdjfdhnmbimkoaaEv
import Derived.Lib.IndexLaws
set_option linter.unusedVariables false
set_option linter.unusedSimpArgs false
namespace Go.Proofs.Ytdjfdhnmbimkoaa.PureId
open Go.RowKit Go.Proofs.YtdjfdhnmbimkoaaW.PrintWords Go.Proofs.YtdjfdhnmbimkoaaW.PrintMore Go.Proofs.Ytdjfdhnmbimkoaa.Evs Go.Proofs.Ytdjfdhnmbimkoaa.Opn Go.Proofs.Ytdjfdhnmbimkoaa.PId

/-! ### The 256 bytes, each looked at -/
def fine (c : Int) : Bool := (token_Letter.f c).isSome && ((ident_digit.f c).isSome && ((ident_control.f c).isSome && (decide (ident_escaped.f c = parterreref04_number.f c) && ((ident_escaped.f c).map (fun t => decide (t.size ≤ 4)) == some true))))
theorem fine_all : (List.range 256).all (fun n => fine (n : Int)) = true := by decide +kernel
theorem byte_all (c : Int) (h0 : 0 ≤ c) (h1 : c ≤ 255) : ∃ t1 t2 t3 t4, token_Letter.f c = some t1 ∧ ident_digit.f c = some t2 ∧ ident_control.f c = some t3 ∧ ident_escaped.f c = some t4 ∧ parterreref04_number.f c = some t4 ∧ t4.size ≤ 4 := by
  have h := List.all_eq_true.1 fine_all c.toNat (List.mem_range.2 (by omega))
  rw [Int.toNat_of_nonneg h0] at h
  simp only [fine, Bool.and_eq_true, decide_eq_true_eq, beq_iff_eq] at h
  obtain ⟨h1, h2, h3, h4, h5⟩ := h
  obtain ⟨t1, e1⟩ := Option.isSome_iff_exists.1 h1
  obtain ⟨t2, e2⟩ := Option.isSome_iff_exists.1 h2
  obtain ⟨t3, e3⟩ := Option.isSome_iff_exists.1 h3
  obtain ⟨t4, e4, e5⟩ := Option.map_eq_some_iff.1 h5
  exact ⟨t1, t2, t3, t4, e1, e2, e3, e4, h4 ▸ e4, of_decide_eq_true e5⟩

/-! ### A nought -/
theorem bt_get (s : ByteArray) (i : Nat) (h : i < s.size) : bt s (i : Int) = ((s.data.toList[i]'(by rw [data_length]; exact h)).toNat : Int) := by
  rw [← bt_at s (i : Int) (by simpa using h)]
  simp
  rfl
theorem bt_zero (s : ByteArray) (i : Nat) (h : i < s.size) : bt s (i : Int) = 0 ↔ s.data.toList[i]? = some 0 := by
  have h' : i < s.data.toList.length := by rw [data_length]; exact h
  rw [bt_get s i h, List.getElem?_eq_getElem h', Option.some_inj]
  constructor
  · intro e
    apply UInt8.toNat_inj.1
    simpa using e
  · intro e
    rw [e]
    rfl
def has0 (s : ByteArray) : Bool := decide (0 ≤ Lib.indexByte s.data.toList 0)
theorem has0_true {s : ByteArray} {i : Nat} (h : i < s.size) (hb : bt s (i : Int) = 0) : has0 s = true := by
  unfold has0
  apply decide_eq_true
  by_cases h0 : Lib.indexByte s.data.toList 0 = -1
  · exact absurd ((bt_zero s i h).1 hb) (Lib.indexByte_none h0 i)
  · have := Lib.indexByte_ge s.data.toList 0
    omega
theorem has0_false {s : ByteArray} (h : ∀ i, i < s.size → bt s (i : Int) ≠ 0) : has0 s = false := by
  unfold has0
  apply decide_eq_false
  intro h0
  obtain ⟨o, ho⟩ := Int.eq_ofNat_of_zero_le h0
  obtain ⟨h1, _⟩ := Lib.indexByte_some ho
  have h2 := (List.getElem?_eq_some_iff.1 h1).1
  rw [data_length] at h2
  exact h o h2 ((bt_zero s o h2).2 h1)
theorem nought_ev (s : ByteArray) (hs : s.size ≤ 140737488351232) : ∀ d i : Nat, s.size - i = d → i ≤ s.size → (∀ j, j < i → bt s (j : Int) ≠ 0) → Ev (fun k => parterreref04_nought.l0 k s (i : Int)) (has0 s) := by
  intro d
  induction d with
  | zero =>
    intro i hd hi hj
    refine ev_step ?_
    simp only [parterreref04_nought.l0]
    rw [has0_false (fun j h => hj j (by omega))]
    exact ev_neg (by omega) ev_some
  | succ d ih =>
    intro i hd hi hj
    refine ev_step ?_
    simp only [parterreref04_nought.l0]
    refine ev_pos (by omega) (ev_pos (by omega) (ev_ite (fun h => ?_) (fun h => ?_)))
    · rw [has0_true (by omega) h]
      exact ev_some
    · rw [w64 (by omega) (by omega)]
      refine ih (i + 1) (by omega) (by omega) (fun j hj' => ?_)
      rcases Nat.lt_or_ge j i with h1 | h1
      · exact hj j h1
      · obtain rfl : j = i := by omega
        exact h
theorem noughts (s : ByteArray) (hs : s.size ≤ 140737488351232) : Ev (fun k => parterreref04_nought.f k s) (has0 s) := nought_ev s hs _ 0 rfl (Nat.zero_le _) (fun j h => absurd h (Nat.not_lt_zero _))
theorem index0 (s : ByteArray) : strings_IndexByte.f s 0 = some (Lib.indexByte s.data.toList 0) := rfl
theorem has0_lt (s : ByteArray) : decide (Lib.indexByte s.data.toList 0 < 0) = !has0 s := by
  unfold has0
  rw [← decide_not]
  exact decide_eq_decide.2 (by omega)

/-! ### A name -/
def isName (s : ByteArray) : Bool := if s.toList = ([] : List UInt8) then false else if (s.size : Int) ≤ 64 then !has0 s else false
theorem name_f (s : ByteArray) : ident_Name.f s = some (isName s) := by
  unfold ident_Name.f isName
  split
  · rfl
  · split
    · rw [index0]
      show some (decide _) = _
      rw [has0_lt]
    · rfl
theorem name_ev (s : ByteArray) (hs : s.size ≤ 140737488351232) : Ev (fun k => parterreref04_Name.f k s) (isName s) := by
  unfold parterreref04_Name.f isName
  by_cases h : s.toList = ([] : List UInt8)
  · rw [if_pos h]
    exact ev_pos h ev_some
  · rw [if_neg h]
    refine ev_neg h ?_
    by_cases h2 : (s.size : Int) ≤ 64
    · rw [if_pos h2]
      exact ev_pos h2 (ev_bind (noughts s hs) ev_some)
    · rw [if_neg h2]
      exact ev_neg h2 ev_some

/-! ### Written -/
theorem byte_of (s : ByteArray) (i : Int) : ∃ t1 t2 t3 t4, token_Letter.f (bt s i) = some t1 ∧ ident_digit.f (bt s i) = some t2 ∧ ident_control.f (bt s i) = some t3 ∧ ident_escaped.f (bt s i) = some t4 ∧ parterreref04_number.f (bt s i) = some t4 ∧ t4.size ≤ 4 := byte_all (bt s i) (bt_range s i).1 (bt_range s i).2
theorem sub_size (s : ByteArray) (i : Nat) (h : i < s.size) : (s.extract i (i + 1)).size = 1 := by
  rw [ByteArray.size_extract]
  omega
theorem app_mk (c : List UInt8) (r : ByteArray) : (⟨c.toArray⟩ : ByteArray) ++ r = ⟨(c ++ r.data.toList).toArray⟩ := by
  apply ByteArray.ext
  simp
theorem size_mk (c : List UInt8) : (⟨c.toArray⟩ : ByteArray).size = c.length := by
  show c.toArray.size = _
  simp
theorem toNat1 (i : Nat) : ((i : Int) + 1).toNat = i + 1 := by omega
theorem wr (s : ByteArray) (i : Nat) (hs : s.size ≤ 1000000) (hi : i < s.size) : wrap64 ((i : Int) + 1) = ((i + 1 : Nat) : Int) := by
  rw [w64 (by omega) (by omega)]
  omega
theorem backslash_size : (⟨#[92]⟩ : ByteArray).size = 1 := rfl
/-- What the document's 'Write' does with one byte, once it is known whether the byte stands for itself. -/
theorem j1_ev (s : ByteArray) (i : Nat) (c : List UInt8) (b : Bool) (t2 t3 : Bool) (t4 : ByteArray) (R : ByteArray) (hs : s.size ≤ 1000000) (hi : i < s.size) (hc : c.length ≤ i * 8)
    (h2 : ident_digit.f (bt s i) = some t2) (h3 : ident_control.f (bt s i) = some t3) (h4 : parterreref04_number.f (bt s i) = some t4) (hz : t4.size ≤ 4)
    (k : Ev (fun k => parterreref04_Write.l0 k s ((⟨c.toArray⟩ : ByteArray) ++ (if b = true then s.extract i (i + 1) else if t2 = true then t4 else if t3 = true then t4 else (⟨#[92]⟩ : ByteArray) ++ s.extract i (i + 1))) ((i + 1 : Nat) : Int)) R) :
    Ev (fun k => parterreref04_Write.j1 k s ⟨c.toArray⟩ (i : Int) (bt s i) b) R := by
  have hw := wr s i hs hi
  have hz1 := sub_size s i hi
  have hcz := size_mk c
  refine ev_step ?_
  simp only [parterreref04_Write.j1, hw, Int.toNat_natCast]
  cases b with
  | true =>
    rw [if_pos rfl] at k
    exact ev_pos rfl (ev_pos (by omega) (ev_pos (by omega) (ev_pos (by omega) (ev_pos (by omega) k))))
  | false =>
    rw [if_neg (by decide)] at k
    refine ev_neg (by decide) (ev_bindc h2 ?_)
    cases t2 with
    | true =>
      rw [if_pos rfl] at k
      exact ev_pos rfl (ev_bindc h4 (ev_pos (by omega) k))
    | false =>
      rw [if_neg (by decide)] at k
      refine ev_neg (by decide) (ev_bindc h3 ?_)
      cases t3 with
      | true =>
        rw [if_pos rfl] at k
        exact ev_pos rfl (ev_bindc h4 (ev_pos (by omega) k))
      | false =>
        rw [if_neg (by decide), ← ByteArray.append_assoc] at k
        exact ev_neg (by decide) (ev_pos (by rw [hcz]; omega) (ev_pos (by omega) (ev_pos (by omega) (ev_pos (by omega) (ev_pos (by rw [ByteArray.size_append, backslash_size]; omega) k)))))

theorem one_write (s : ByteArray) (i : Nat) (hs : s.size ≤ 1000000) (hi : i < s.size) : ∃ t1 t2 t3 t4, token_Letter.f (bt s i) = some t1 ∧ ident_digit.f (bt s i) = some t2 ∧ ident_control.f (bt s i) = some t3 ∧ parterreref04_number.f (bt s i) = some t4 ∧ t4.size ≤ 4 ∧
    ident_Write.one s i = some (if (t1 || (decide (bt s i = 45) && decide (1 < (s.size : Int)) || (t2 && !ident_Write.first s i))) = true then s.extract i (i + 1) else if t2 = true then t4 else if t3 = true then t4 else (⟨#[92]⟩ : ByteArray) ++ s.extract i (i + 1)) := by
  obtain ⟨t1, t2, t3, t4, h1, h2, h3, h4, h5, h6⟩ := byte_of s i
  refine ⟨t1, t2, t3, t4, h1, h2, h3, h5, h6, ?_⟩
  unfold ident_Write.one ident_Write.sub
  rw [h1, h2, h3, h4, wr s i hs hi]
  simp only [Option.bind_some, Int.toNat_natCast, Option.some_inj]
  generalize ident_Write.first s i = f
  generalize s.extract i (i + 1) = e
  by_cases c1 : bt s i = 45 <;> by_cases c2 : 1 < (s.size : Int) <;> cases t1 <;> cases t2 <;> cases f <;> simp [c1, c2]

theorem piece_size (s : ByteArray) (i : Nat) (hi : i < s.size) (b t2 t3 : Bool) (t4 : ByteArray) (hz : t4.size ≤ 4) : (if b = true then s.extract i (i + 1) else if t2 = true then t4 else if t3 = true then t4 else (⟨#[92]⟩ : ByteArray) ++ s.extract i (i + 1)).size ≤ 8 := by
  have := sub_size s i hi
  split
  · omega
  · split
    · omega
    · split
      · omega
      · rw [ByteArray.size_append, backslash_size]
        omega
theorem next_write {s r : ByteArray} {n : Nat} {c : List UInt8} (hc : ident_Write.cat s n = some c) (h6 : ident_Write.one s n = some r) (hz : r.size ≤ 8) : ident_Write.cat s (n + 1) = some (c ++ r.data.toList) := by
  show (ident_Write.cat s n).bind _ = _
  rw [hc]
  show (ident_Write.one s n).bind _ = _
  rw [h6]
  exact if_pos hz
theorem cat_write (s : ByteArray) (hs : s.size ≤ 1000000) : ∀ n, n ≤ s.size → ∃ c, ident_Write.cat s n = some c
  | 0, _ => ⟨[], rfl⟩
  | n + 1, h => by
    obtain ⟨c, hc⟩ := cat_write s hs n (by omega)
    obtain ⟨t1, t2, t3, t4, h1, h2, h3, h4, h5, h6⟩ := one_write s n hs (by omega)
    exact ⟨_, next_write hc h6 (piece_size s n (by omega) _ _ _ _ h5)⟩
theorem write_loop (s : ByteArray) (l : List UInt8) (hs : s.size ≤ 1000000) (hl : ident_Write.cat s s.size = some l) : ∀ d i : Nat, s.size - i = d → i ≤ s.size → ∀ c, ident_Write.cat s i = some c → Ev (fun k => parterreref04_Write.l0 k s ⟨c.toArray⟩ (i : Int)) ⟨l.toArray⟩ := by
  intro d
  induction d with
  | zero =>
    intro i hd hi c hc
    obtain rfl : i = s.size := by omega
    obtain rfl := Option.some.inj (hc.symm.trans hl)
    refine ev_step ?_
    simp only [parterreref04_Write.l0]
    exact ev_neg (by omega) ev_some
  | succ d ih =>
    intro i hd hi c hc
    have hlt : i < s.size := by omega
    obtain ⟨c', r, g1, g2, g3, g4⟩ := ident_Write.cat_lt s hl hlt
    obtain rfl := Option.some.inj (hc.symm.trans g1)
    have k0 := ih (i + 1) (by omega) (by omega) _ g4
    rw [← app_mk] at k0
    obtain ⟨t1, t2, t3, t4, h1, h2, h3, h4, h5, h6⟩ := one_write s i hs hlt
    obtain rfl := Option.some.inj (h6.symm.trans g2)
    have hcl := ident_Write.cat_len s i c hc
    have j := fun b e => j1_ev s i c b t2 t3 t4 ⟨l.toArray⟩ hs hlt hcl h2 h3 h4 h5 (e : Ev _ _)
    have hd1 : parterreref04_digit.f (bt s i) = some t2 := h2
    have hl1 : parterreref03_Letter.f (bt s i) = some t1 := h1
    refine ev_step ?_
    simp only [parterreref04_Write.l0]
    refine ev_pos (by omega) (ev_pos (by omega) (ev_bindc hl1 ?_))
    have tail : t1 = false → ¬ (bt s i = 45 ∧ 1 < (s.size : Int)) → Ev (fun k => (parterreref04_digit.f (bt s i)).bind fun t108 => (if t108 = true then (if (i : Int) > 0 then (if (i : Int) = 1 then (if 0 < (s.size : Int) then (parterreref04_Write.j1 k s ⟨c.toArray⟩ (i : Int) (bt s i) (!((bt s 0) == 45))) else (none)) else (parterreref04_Write.j1 k s ⟨c.toArray⟩ (i : Int) (bt s i) (!false))) else (parterreref04_Write.j1 k s ⟨c.toArray⟩ (i : Int) (bt s i) false)) else (parterreref04_Write.j1 k s ⟨c.toArray⟩ (i : Int) (bt s i) false))) ⟨l.toArray⟩ := by
      intro e1 e2
      have e3 : (decide (bt s i = 45) && decide (1 < (s.size : Int))) = false := by
        rw [← Bool.decide_and]
        exact decide_eq_false e2
      rw [e1, e3] at k0
      simp only [Bool.false_or] at k0
      refine ev_bindc hd1 ?_
      cases t2 with
      | false => exact ev_neg (by decide) (j _ k0)
      | true =>
        simp only [Bool.true_and] at k0
        unfold ident_Write.first at k0
        refine ev_pos rfl (ev_ite (fun p0 => ?_) (fun p0 => ?_))
        · have q0 : ¬ ((i : Int) = 0) := by omega
          rw [decide_eq_false q0, Bool.false_or] at k0
          refine ev_ite (fun p1 => ?_) (fun p1 => ?_)
          · rw [decide_eq_true p1, Bool.true_and] at k0
            exact ev_pos (by omega) (j _ k0)
          · rw [decide_eq_false p1, Bool.false_and] at k0
            exact j _ k0
        · have q0 : ((i : Int) = 0) := by omega
          rw [decide_eq_true q0, Bool.true_or] at k0
          exact j _ k0
    cases t1 with
    | true =>
      simp only [Bool.true_or] at k0
      exact ev_pos rfl (j _ k0)
    | false =>
      refine ev_neg (by decide) (ev_ite (fun p1 => ?_) (fun p1 => ?_))
      · refine ev_ite (fun p2 => ?_) (fun p2 => ?_)
        · rw [decide_eq_true p1, decide_eq_true (show 1 < (s.size : Int) by omega)] at k0
          simp only [Bool.false_or, Bool.true_and, Bool.true_or] at k0
          exact j _ k0
        · exact tail rfl (fun h => p2 h.2)
      · exact tail rfl (fun h => p1 h.1)
theorem write_f (s : ByteArray) (hs : s.size ≤ 1000000) : ∃ r, ident_Write.f s = some r ∧ Ev (fun k => parterreref04_Write.f k s) r := by
  unfold ident_Write.f parterreref04_Write.f
  rw [name_f]
  have hn := name_ev s (by omega)
  cases hb : isName s with
  | false =>
    rw [hb] at hn
    exact ⟨_, rfl, ev_bind hn (ev_neg (by decide) ev_some)⟩
  | true =>
    rw [hb] at hn
    obtain ⟨l, hl⟩ := cat_write s hs s.size (Nat.le_refl _)
    refine ⟨⟨l.toArray⟩, ?_, ev_bind hn (ev_pos rfl (write_loop s l hs hl s.size 0 rfl (Nat.zero_le _) [] rfl))⟩
    show (if true = true then (if s.size ≤ 1000000 then (ident_Write.cat s s.size).bind (fun l => some (⟨l.toArray⟩ : ByteArray)) else none) else some (⟨#[]⟩ : ByteArray)) = _
    rw [if_pos rfl, if_pos hs, hl]
    rfl

/-! ### Quoted -/
theorem next_quote {s r : ByteArray} {n : Nat} {c : List UInt8} (hc : ident_Quote.cat s n = some c) (h6 : ident_Quote.one s n = some r) (hz : r.size ≤ 8) : ident_Quote.cat s (n + 1) = some (c ++ r.data.toList) := by
  show (ident_Quote.cat s n).bind _ = _
  rw [hc]
  show (ident_Quote.one s n).bind _ = _
  rw [h6]
  exact if_pos hz
theorem one_quote (s : ByteArray) (i : Nat) (hs : s.size ≤ 1000000) (hi : i < s.size) : ∃ t3 t4, ident_control.f (bt s i) = some t3 ∧ parterreref04_number.f (bt s i) = some t4 ∧ t4.size ≤ 4 ∧
    ident_Quote.one s i = some (if t3 = true then t4 else if bt s i = 34 then (⟨#[92]⟩ : ByteArray) ++ s.extract i (i + 1) else if bt s i = 92 then (⟨#[92]⟩ : ByteArray) ++ s.extract i (i + 1) else s.extract i (i + 1)) := by
  obtain ⟨t1, t2, t3, t4, h1, h2, h3, h4, h5, h6⟩ := byte_of s i
  refine ⟨t3, t4, h3, h5, h6, ?_⟩
  unfold ident_Quote.one ident_Quote.sub
  rw [h3, h4, wr s i hs hi]
  simp only [Option.bind_some, Int.toNat_natCast]
theorem quote_size (s : ByteArray) (i : Nat) (hi : i < s.size) (t3 : Bool) (t4 : ByteArray) (hz : t4.size ≤ 4) : (if t3 = true then t4 else if bt s i = 34 then (⟨#[92]⟩ : ByteArray) ++ s.extract i (i + 1) else if bt s i = 92 then (⟨#[92]⟩ : ByteArray) ++ s.extract i (i + 1) else s.extract i (i + 1)).size ≤ 8 := by
  have := sub_size s i hi
  split
  · omega
  · split
    · rw [ByteArray.size_append, backslash_size]
      omega
    · split
      · rw [ByteArray.size_append, backslash_size]
        omega
      · omega
theorem cat_quote (s : ByteArray) (hs : s.size ≤ 1000000) : ∀ n, n ≤ s.size → ∃ c, ident_Quote.cat s n = some c
  | 0, _ => ⟨[], rfl⟩
  | n + 1, h => by
    obtain ⟨c, hc⟩ := cat_quote s hs n (by omega)
    obtain ⟨t3, t4, h3, h4, h5, h6⟩ := one_quote s n hs (by omega)
    exact ⟨_, next_quote hc h6 (quote_size s n (by omega) _ _ h5)⟩
theorem quote_loop (s : ByteArray) (l : List UInt8) (hs : s.size ≤ 1000000) (hl : ident_Quote.cat s s.size = some l) : ∀ d i : Nat, s.size - i = d → i ≤ s.size → ∀ c, ident_Quote.cat s i = some c → Ev (fun k => parterreref04_Quote.l0 k s ((⟨#[34]⟩ : ByteArray) ++ ⟨c.toArray⟩) (i : Int)) (((⟨#[34]⟩ : ByteArray) ++ ⟨l.toArray⟩) ++ (⟨#[34]⟩ : ByteArray)) := by
  intro d
  induction d with
  | zero =>
    intro i hd hi c hc
    obtain rfl : i = s.size := by omega
    obtain rfl := Option.some.inj (hc.symm.trans hl)
    have hcl := ident_Quote.cat_len s _ _ hc
    have hcz := size_mk c
    have hq : (⟨#[34]⟩ : ByteArray).size = 1 := rfl
    refine ev_step ?_
    simp only [parterreref04_Quote.l0]
    exact ev_neg (by omega) (ev_pos (by rw [ByteArray.size_append]; omega) ev_some)
  | succ d ih =>
    intro i hd hi c hc
    have hlt : i < s.size := by omega
    obtain ⟨c', r, g1, g2, g3, g4⟩ := ident_Quote.cat_lt s hl hlt
    obtain rfl := Option.some.inj (hc.symm.trans g1)
    have k0 := ih (i + 1) (by omega) (by omega) _ g4
    rw [← app_mk, ← ByteArray.append_assoc] at k0
    obtain ⟨t3, t4, h3, h4, h5, h6⟩ := one_quote s i hs hlt
    obtain rfl := Option.some.inj (h6.symm.trans g2)
    have hcl := ident_Quote.cat_len s i c hc
    have hw := wr s i hs hlt
    have hz1 := sub_size s i hlt
    have hx : ((⟨#[34]⟩ : ByteArray) ++ (⟨c.toArray⟩ : ByteArray)).size ≤ 10000000 := by
      have hcz := size_mk c
      have hq : (⟨#[34]⟩ : ByteArray).size = 1 := rfl
      rw [ByteArray.size_append]
      omega
    have hc1 : parterreref04_control.f (bt s i) = some t3 := h3
    generalize (⟨#[34]⟩ : ByteArray) ++ (⟨c.toArray⟩ : ByteArray) = x at k0 hx ⊢
    refine ev_step ?_
    simp only [parterreref04_Quote.l0, hw, Int.toNat_natCast]
    refine ev_pos (by omega) (ev_pos (by omega) (ev_bindc hc1 (ev_ite (fun p1 => ?_) (fun p1 => ?_))))
    · rw [if_pos p1] at k0
      exact ev_bindc h4 (ev_pos (by omega) k0)
    · rw [if_neg p1] at k0
      refine ev_ite (fun p2 => ?_) (fun p2 => ?_)
      · rw [if_pos p2, ← ByteArray.append_assoc] at k0
        exact ev_pos (by omega) (ev_pos (by omega) (ev_pos (by omega) (ev_pos (by rw [ByteArray.size_append, backslash_size]; omega) k0)))
      · rw [if_neg p2] at k0
        refine ev_ite (fun p3 => ?_) (fun p3 => ?_)
        · rw [if_pos p3, ← ByteArray.append_assoc] at k0
          exact ev_pos (by omega) (ev_pos (by omega) (ev_pos (by omega) (ev_pos (by rw [ByteArray.size_append, backslash_size]; omega) k0)))
        · rw [if_neg p3] at k0
          exact ev_pos (by omega) (ev_pos (by omega) (ev_pos (by omega) k0))
theorem quote_f (s : ByteArray) (hs : s.size ≤ 1000000) : ∃ r, ident_Quote.f s = some r ∧ Ev (fun k => parterreref04_Quote.f k s) r := by
  unfold ident_Quote.f parterreref04_Quote.f
  by_cases hb : (s.size : Int) > 8192
  · refine ⟨_, if_pos hb, ev_pos hb (ev_step ?_)⟩
    simp only [parterreref04_Quote.j0]
    exact ev_pos trivial ev_some
  · rw [if_neg hb, index0]
    have hn := noughts s (by omega)
    by_cases h0 : Lib.indexByte s.data.toList 0 ≥ 0
    · have e : has0 s = true := decide_eq_true h0
      rw [e] at hn
      refine ⟨⟨#[]⟩, ?_, ev_neg hb (ev_bind hn (ev_step ?_))⟩
      · show (if Lib.indexByte s.data.toList 0 ≥ 0 then _ else _) = _
        rw [if_pos h0]
      · simp only [parterreref04_Quote.j0]
        exact ev_pos trivial ev_some
    · have e : has0 s = false := decide_eq_false h0
      rw [e] at hn
      obtain ⟨l, hl⟩ := cat_quote s hs s.size (Nat.le_refl _)
      refine ⟨((⟨#[34]⟩ : ByteArray) ++ ⟨l.toArray⟩) ++ (⟨#[34]⟩ : ByteArray), ?_, ev_neg hb (ev_bind hn (ev_step ?_))⟩
      · show (if Lib.indexByte s.data.toList 0 ≥ 0 then some (⟨#[]⟩ : ByteArray) else (ident_Quote.cat s s.size).bind fun l => some (((⟨#[34]⟩ : ByteArray) ++ ⟨l.toArray⟩) ++ (⟨#[34]⟩ : ByteArray))) = _
        rw [if_neg h0, hl]
        rfl
      · simp only [parterreref04_Quote.j0]
        have := quote_loop s l hs hl s.size 0 rfl (Nat.zero_le _) [] rfl
        exact ev_neg (by decide) this
theorem lives : parterrelaw04_lives.f = some true := by
  unfold parterrelaw04_lives.f
  simp only [ByteArray.toList_eq]
  have e1 : ident_Write.f (⟨#[49, 97]⟩ : ByteArray) = some ⟨#[92, 51, 49, 32, 97]⟩ := by decide +kernel
  have e2 : ident_Write.f (⟨#[97, 32, 98]⟩ : ByteArray) = some ⟨#[97, 92, 32, 98]⟩ := by decide +kernel
  have e3 : ident_Quote.f (⟨#[97, 34, 98]⟩ : ByteArray) = some ⟨#[34, 97, 92, 34, 98, 34]⟩ := by decide +kernel
  rw [e1, e2, e3]
  rfl
end Go.Proofs.Ytdjfdhnmbimkoaa.PureId
