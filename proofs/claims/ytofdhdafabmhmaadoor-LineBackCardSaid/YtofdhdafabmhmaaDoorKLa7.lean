/- LineBackCardSaid, part 8 of 8: the statement itself, and what it stands on. Conditions: none beyond what the statements say. -/
import Derived.Test.YtofdhdafabmhmaaDoorKLa4
import Derived.Test.YtofdhdafabmhmaaDoorKLa5
import Derived.Test.YtofdhdafabmhmaaDoorKLa6
import Derived.Test.YtofdhdafabmhmaaDoorKLa2
import Derived.Test.YtofdhdafabmhmaaDoorRows
import Derived.Test.YtofdhdafabmhmaaDoorCards
import Derived.Test.YtofdhdafabmhmaaDoorTie
import Derived.Test.YtofdhdafabmhmaaDoorKLa1
import Derived.SevenTiedAt
import Derived.LaidMore
import Derived.Stop.Joined
import Derived.Test.YtofdhdafabmhmaaDoorKLa0
import Derived.WalkKit
import Derived.ProofKit
import Derived.OpenShut
import Derived.ShutString
import Derived.ChangeOld
import Derived.Below
import Derived.SizedLaws
import Derived.Carry
set_option linter.unusedVariables false
set_option linter.unusedSimpArgs false
section
/- Words read as a line (layer 7). Conditions: as each theorem says. -/
namespace Go.Proofs.YtofdhdafabmhmaaDoor.PureLr
open Go.RowKit Go.Proofs.YtofdhdafabmhmaaDoorW.PrintWords Go.Proofs.YtofdhdafabmhmaaDoorW.PrintMore Go.Proofs.YtofdhdafabmhmaaDoor.Evs Go.Proofs.YtofdhdafabmhmaaDoor.Opn Go.Proofs.YtofdhdafabmhmaaDoor.PLa Go.Proofs.YtofdhdafabmhmaaDoor.Giv Go.Proofs.YtofdhdafabmhmaaDoor.PureLi Go.Proofs.YtofdhdafabmhmaaDoor.PureLk
open Go.Proofs.YtofdhdafabmhmaaDoor.PureIdT (L lower_f is_f custom custom_f kws lowN)
open Go.Proofs.YtofdhdafabmhmaaDoor.PureTu (isD)

def SPAN : ByteArray := ⟨#[115, 112, 97, 110]⟩
def AUTO : ByteArray := ⟨#[97, 117, 116, 111]⟩
section
variable {l : List S67} {i : Nat} {t : S67}
theorem at_lt (h : l[i]? = some t) : i < l.length := (List.getElem?_eq_some_iff.1 h).1
theorem rd_get (h : l[i]? = some t) : rd_T67 l (i : Int) = t := by
  unfold rd_T67
  rw [Int.toNat_natCast, List.getD_eq_getElem?_getD, h]
  rfl
theorem word_f (h : l[i]? = some t) : value_word.f l (i : Int) = some (t.f0, t.f1, t.f2, t.f3) := by
  have := at_lt h
  unfold value_word.f
  rw [if_neg (by omega), if_neg (by omega), if_pos (by omega), if_pos (by omega), rd_get h]
theorem int_no (h : l[i]? = some t) (h3 : t.f0 ≠ 3) : Ev (fun k => value_Integer.f k l (i : Int)) ((0 : Int), (i : Int), (50 : Int)) := by
  simp only [value_Integer.f]
  refine ev_bindc (word_f h) (ev_neg h3 (ev_step ?_))
  simp only [value_Integer.j0]
  exact ev_pos (by trivial) ev_some
theorem index_none {x : List UInt8} {c : UInt8} (h : ∀ b ∈ x, b ≠ c) : Lib.indexByte x c < 0 := by
  rcases Int.lt_or_le (Lib.indexByte x c) 0 with h1 | h1
  · exact h1
  · obtain ⟨m, hm⟩ := Int.eq_ofNat_of_zero_le h1
    exact absurd rfl (h c (List.mem_of_getElem? (Lib.indexByte_some hm).1))
theorem no_byte {s : ByteArray} {c : UInt8} (h : ∀ b ∈ s.data.toList, b ≠ c) : strings_Contains.f s ⟨#[c]⟩ = some false := by
  unfold strings_Contains.f strings_Index.f
  rw [if_pos (show (⟨#[c]⟩ : ByteArray).size = 1 from rfl)]
  show some (decide (Lib.indexByte s.data.toList c ≥ 0)) = _
  rw [decide_eq_false (by have := index_none h; omega)]
theorem ito_byte {n : Int} (h : -10000 ≤ n ∧ n ≤ 10000) : ∀ b ∈ (ito n).data.toList, b = 45 ∨ (48 ≤ b.toNat ∧ b.toNat ≤ 57) := fun b hb => by
  obtain ⟨sg, W, he, hsg, hW, _⟩ := ito_bytes n h
  have hm : (b.toNat : Int) ∈ bytesOf (ito n) := List.mem_map.2 ⟨b, hb, rfl⟩
  rw [he] at hm
  rcases List.mem_append.1 hm with hm | hm
  · rcases hsg with rfl | rfl
    · cases hm
    · have : (b.toNat : Int) = 45 := by simpa using hm
      exact Or.inl (UInt8.toNat_inj.1 (by show b.toNat = 45; omega))
  · have := of_decide_eq_true (hW _ hm)
    exact Or.inr ⟨by omega, by omega⟩
theorem low_byte {n : Int} (h : -10000 ≤ n ∧ n ≤ 10000) : ∀ b ∈ (L (ito n)).data.toList, b ≠ 101 := fun b hb => by
  have h1 : (L (ito n)).data.toList = (lowN (ito n) (ito n).size).map (fun c => UInt8.ofNat c.toNat) := rfl
  rw [h1] at hb
  obtain ⟨c, hc, rfl⟩ := List.mem_map.1 hb
  obtain ⟨j, hj, rfl⟩ := List.mem_map.1 hc
  have hlt := List.mem_range.1 hj
  have hx := List.getElem?_eq_getElem (show j < (ito n).data.toList.length by rw [data_length]; exact hlt)
  rw [(PureLx.bt_list hx).2]
  rcases ito_byte h _ (List.mem_of_getElem? hx) with e | ⟨e1, e2⟩
  · rw [e]
    decide
  · intro e
    have e3 : ident_Lower.low (((ito n).data.toList[j]).toNat : Int) = (((ito n).data.toList[j]).toNat : Int) := by
      unfold ident_Lower.low
      split <;> omega
    rw [e3, Int.toNat_natCast, UInt8.ofNat_toNat] at e
    rw [e] at e2
    exact absurd e2 (by decide)
theorem val_ito {n : Int} (h : -10000 ≤ n ∧ n ≤ 10000) : PureTw.Val (ito n) 1 = (n, 0) := by
  have e := (PureSt.txt_back (sc := 1) (Or.inl rfl) (n := n) ⟨by omega, by omega⟩).1
  have e2 := ito_txt h
  unfold PureTx.Txt at e2
  rw [if_pos ⟨⟨by omega, by omega⟩, Or.inl rfl⟩] at e2
  rw [← e2]
  exact e
theorem int_num {n : Int} (h : l[i]? = some t) (h3 : t.f0 = 3) (hn : t.f3 = ito n) (hb : -10000 ≤ n ∧ n ≤ 10000) (hi : i ≤ 1000000) : Ev (fun k => value_Integer.f k l (i : Int)) (n, ((i + 1 : Nat) : Int), (0 : Int)) := by
  have hz := ito_size hb
  simp only [value_Integer.f]
  refine ev_bindc (word_f h) (ev_pos h3 ?_)
  show Ev (fun k => (strings_Contains.f t.f3 _).bind fun t225 => _) _
  rw [hn]
  refine ev_bindc (no_byte (c := 46) (fun b hb2 => ?_)) (ev_neg (by decide) (ev_bindc (lower_f (ito n) (by omega)) (ev_bindc (no_byte (c := 101) (low_byte hb)) (ev_step ?_))))
  · rcases ito_byte hb b hb2 with e | ⟨e1, e2⟩
    · rw [e]
      decide
    · rintro rfl
      exact absurd e1 (by decide)
  · simp only [value_Integer.j0]
    have hv : Ev (fun k => value_scaled.f k (ito n) 1) (n, (0 : Int)) := by
      simp only [value_scaled.f]
      have := PureTw.nVal (ito n) (by omega) 1
      rw [val_ito hb] at this
      exact ev_bind this (ev_pos rfl ev_some)
    refine ev_neg (by decide) (ev_bind hv (ev_pos rfl (ev_eq ?_)))
    rw [w64 (by omega) (by omega)]
    rfl
/-! ### Keywords -/
theorem kw_loop (s : ByteArray) (xs : List ByteArray) (a1 : Int) (hs : s.size ≤ 1000000) (hx : ∀ x ∈ xs, x.size ≤ 1000000) (hl : xs.length ≤ 100) (hno : ∀ x ∈ xs, ((L s).toList == (L x).toList) = false) (x0 x1 : Int) (x3 : ByteArray) :
    ∀ d j : Nat, xs.length - j = d → j ≤ xs.length → Ev (fun k => value_Keyword.l0 k a1 xs (xs.length : Int) (j : Int) x0 x1 s x3) ((-1 : Int), a1) := by
  intro d
  induction d with
  | zero =>
    intro j hd hj
    refine ev_step ?_
    simp only [value_Keyword.l0]
    exact ev_neg (by omega) ev_some
  | succ d ih =>
    intro j hd hj
    have hlt : j < xs.length := by omega
    have hr : rdOf ByteArray.empty xs (j : Int) = xs[j] := by simp [rdOf, List.getD_eq_getElem?_getD, List.getElem?_eq_getElem hlt]
    refine ev_step ?_
    simp only [value_Keyword.l0, hr]
    refine ev_pos (by omega) (ev_pos (by omega) (ev_pos (by omega) (ev_bindc (is_f s xs[j] hs (hx _ (List.getElem_mem hlt))) (ev_neg (by rw [hno _ (List.getElem_mem hlt)]; decide) ?_))))
    rw [w64 (by omega) (by omega)]
    exact ih (j + 1) (by omega) (by omega)
theorem keys_size : ∀ x ∈ line_Read.keys, x.size ≤ 1000000 := by decide
theorem kw_no (h : l[i]? = some t) (h1 : t.f0 ≠ 1) : Ev (fun k => value_Keyword.f k l (i : Int) line_Read.keys) ((-1 : Int), (i : Int)) := by
  simp only [value_Keyword.f]
  exact ev_bindc (word_f h) (ev_neg h1 ev_some)
theorem kw_ident {s : ByteArray} (h : l[i]? = some t) (h1 : t.f0 = 1) (h2 : t.f2 = s) (hs : s.size ≤ 1000000) (hno : ∀ x ∈ line_Read.keys, ((L s).toList == (L x).toList) = false) : Ev (fun k => value_Keyword.f k l (i : Int) line_Read.keys) ((-1 : Int), (i : Int)) := by
  subst h2
  simp only [value_Keyword.f]
  exact ev_bindc (word_f h) (ev_pos h1 (kw_loop t.f2 line_Read.keys (i : Int) hs keys_size (by decide) hno t.f0 t.f1 t.f3 5 0 rfl (by decide)))
theorem kw_auto (h : l[i]? = some t) (h1 : t.f0 = 1) (h2 : t.f2 = AUTO) (hi : i ≤ 1000000) : Ev (fun k => value_Keyword.f k l (i : Int) line_Read.keys) ((0 : Int), ((i + 1 : Nat) : Int)) := by
  simp only [value_Keyword.f]
  refine ev_bindc (word_f h) (ev_pos h1 (ev_step ?_))
  simp only [value_Keyword.l0]
  rw [h2]
  refine ev_pos (by decide) (ev_pos (by decide) (ev_pos (by decide) (ev_bindc (is_f AUTO _ (by decide) (by decide)) (ev_pos ?_ (ev_eq ?_)))))
  · show ((L AUTO).toList == (L AUTO).toList) = true
    exact beq_self_eq_true _
  · rw [w64 (by omega) (by omega)]
    rfl
theorem custom_kws {s : ByteArray} (h : custom s = true) : ∀ x ∈ kws, ((L s).toList == (L x).toList) = false := fun x hx => by
  unfold custom at h
  split at h
  · cases h
  · rename_i hn
    cases e : ((L s).toList == (L x).toList) with
    | false => rfl
    | true => exact absurd (List.any_eq_true.2 ⟨x, hx, e⟩) hn
theorem keys_kws : ∀ x ∈ line_Read.keys, x ∈ kws := fun x hx => by
  simp only [line_Read.keys, List.mem_cons, List.not_mem_nil, or_false] at hx
  rcases hx with rfl | rfl | rfl | rfl | rfl <;> simp [kws]
theorem span_kws : SPAN ∈ kws := by simp [kws, SPAN]
theorem span_keys : ∀ x ∈ line_Read.keys, ((L SPAN).toList == (L x).toList) = false := by
  simp only [ByteArray.toList_eq]
  decide +kernel

/-! ### The loop over a line's words -/
theorem text_ident (h : l[i]? = some t) (h1 : t.f0 = 1) : line_Read.text l (i : Int) = t.f2 := by
  have := at_lt h
  unfold line_Read.text
  rw [if_pos ⟨by omega, by omega⟩, rd_get h, if_pos h1]
theorem text_no (h : l[i]? = some t) (h1 : t.f0 ≠ 1) : line_Read.text l (i : Int) = ⟨#[]⟩ := by
  have := at_lt h
  unfold line_Read.text
  rw [if_pos ⟨by omega, by omega⟩, rd_get h, if_neg h1]
theorem num_no (h : l[i]? = some t) (h3 : t.f0 ≠ 3) (nu : Int) : Ev (fun k => line_Read.isNum k l nu (i : Int)) false := by
  simp only [line_Read.isNum, line_Read.num]
  exact ev_ite (fun _ => ev_bind (int_no h h3) (ev_eq rfl)) (fun _ => ev_some)
theorem num_yes {n : Int} (h : l[i]? = some t) (h3 : t.f0 = 3) (hn : t.f3 = ito n) (hb : -10000 ≤ n ∧ n ≤ 10000) (hi : i ≤ 1000000) {nu : Int} (hnu : nu < 0) : Ev (fun k => line_Read.isNum k l nu (i : Int)) true := by
  simp only [line_Read.isNum, line_Read.num]
  exact ev_pos hnu (ev_bind (int_num h h3 hn hb hi) (ev_eq rfl))
variable {a1 nu sp : Int} {nm : ByteArray} {r : Int × Int × Int × ByteArray}
theorem st_num {n : Int} (h : l[i]? = some t) (h3 : t.f0 = 3) (hn : t.f3 = ito n) (hb : -10000 ≤ n ∧ n ≤ 10000) (hi : i ≤ 1000000) (hnu : nu < 0) (hr : Ev (fun k => line_Read.l0 k l a1 (i : Int) sp ((i + 1 : Nat) : Int) nm) r) : Ev (fun k => line_Read.l0 k l a1 nu sp (i : Int) nm) r := by
  refine ev_step ?_
  simp only [line_Read.l0]
  rw [show wrap64 ((i : Int) + 1) = ((i + 1 : Nat) : Int) by rw [w64 (by omega) (by omega)]; rfl]
  exact ev_bind (num_yes h h3 hn hb hi hnu) (ev_pos rfl hr)
theorem st_span (h : l[i]? = some t) (h1 : t.f0 = 1) (h2 : t.f2 = SPAN) (hi : i ≤ 1000000) (hsp : sp < 0) (hk : ¬ (i : Int) > a1) (hr : Ev (fun k => line_Read.l0 k l a1 nu (i : Int) ((i + 1 : Nat) : Int) nm) r) : Ev (fun k => line_Read.l0 k l a1 nu sp (i : Int) nm) r := by
  refine ev_step ?_
  simp only [line_Read.l0]
  rw [show wrap64 ((i : Int) + 1) = ((i + 1 : Nat) : Int) by rw [w64 (by omega) (by omega)]; rfl, text_ident h h1, h2]
  exact ev_bind (num_no h (by omega) nu) (ev_neg (by decide) (ev_bindc (is_f SPAN _ (by decide) (by decide)) (ev_pos (beq_self_eq_true _) (ev_pos hsp (ev_neg hk hr)))))
theorem st_name {s : ByteArray} (h : l[i]? = some t) (h1 : t.f0 = 1) (h2 : t.f2 = s) (hc : custom s = true) (hi : i ≤ 1000000) (hnm : nm.toList = []) (hr : Ev (fun k => line_Read.l0 k l a1 nu sp ((i + 1 : Nat) : Int) s) r) : Ev (fun k => line_Read.l0 k l a1 nu sp (i : Int) nm) r := by
  have hz := custom_size hc
  refine ev_step ?_
  simp only [line_Read.l0, line_Read.isName]
  rw [show wrap64 ((i : Int) + 1) = ((i + 1 : Nat) : Int) by rw [w64 (by omega) (by omega)]; rfl, text_ident h h1, h2]
  refine ev_bind (num_no h (by omega) nu) (ev_neg (by decide) (ev_bindc (is_f s SPAN (by omega) (by decide)) (ev_neg ?_ ?_)))
  · rw [custom_kws hc SPAN span_kws]
    decide
  · rw [if_pos hnm]
    exact ev_bindc (custom_f s (by omega)) (ev_pos hc hr)
theorem st_end (h : l[i]? = some t) (h1 : t.f0 ≠ 1) (h3 : t.f0 ≠ 3) : Ev (fun k => line_Read.l0 k l a1 nu sp (i : Int) nm) (nu, sp, (i : Int), nm) := by
  refine ev_step ?_
  simp only [line_Read.l0, line_Read.isName]
  rw [text_no h h1]
  refine ev_bind (num_no h h3 nu) (ev_neg (by decide) (ev_bindc (is_f ⟨#[]⟩ SPAN (by decide) (by decide)) (ev_neg ?_ ?_)))
  · simp only [ByteArray.toList_eq]
    decide +kernel
  · have hc : custom (⟨#[]⟩ : ByteArray) = false := custom_nil (by rw [ByteArray.toList_eq])
    refine ev_bindc (a := false) ?_ (ev_neg (by decide) ev_some)
    split
    · rw [custom_f ⟨#[]⟩ (by decide), hc]
    · rfl
theorem fin_plain {n k1 : Int} (hk : k1 ≠ a1) (hnu : nu < 0) (hx : sp < 0 ∨ nm.toList ≠ []) : Ev (fun k => line_Read.fin k l a1 nu sp k1 nm) (if sp ≥ 0 then 4 else 3, if sp ≥ 0 then 1 else 0, nm, k1, 0) := by
  simp only [line_Read.fin]
  refine ev_neg hk (ev_neg ?_ (ev_pos hnu ev_some))
  rintro ⟨h1, _, h3⟩
  rcases hx with hx | hx
  · omega
  · exact hx h3
theorem fin_num {n k1 : Int} {j : Nat} {u : S67} (hk : k1 ≠ a1) (h : l[j]? = some u) (h3 : u.f0 = 3) (hn : u.f3 = ito n) (hb : -10000 ≤ n ∧ n ≤ 10000) (hj : j ≤ 1000000) (h0 : n ≠ 0) (hs : sp ≥ 0 → 0 < n) :
    Ev (fun k => line_Read.fin k l a1 (j : Int) sp k1 nm) (if sp < 0 then 2 else 4, n, nm, k1, 0) := by
  simp only [line_Read.fin]
  refine ev_neg hk (ev_neg (fun z => by omega) (ev_neg (by omega) (ev_bind (int_num h h3 hn hb hj) (ev_neg ?_ (ev_neg ?_ ev_some)))))
  · rintro (h | h | h)
    · exact h rfl
    · have : n > 10000 := h
      omega
    · have : n < -10000 := h
      omega
  · rintro (h | ⟨h, h2⟩)
    · exact h0 h
    · have : n < 0 := h
      have := hs h2
      omega
end
/-! ### A line at a place -/
/-- What a word is to a line. -/
def IsI (l : List S67) (i : Nat) (s : ByteArray) : Prop := ∃ t, l[i]? = some t ∧ t.f0 = 1 ∧ t.f2 = s
def IsN (l : List S67) (i : Nat) (n : Int) : Prop := ∃ t, l[i]? = some t ∧ t.f0 = 3 ∧ t.f3 = ito n
def IsE (l : List S67) (i : Nat) : Prop := ∃ t, l[i]? = some t ∧ t.f0 ≠ 1 ∧ t.f0 ≠ 3
section
variable {l : List S67} {i : Nat} {n : Int} {s : ByteArray}
theorem read_auto (hi : i ≤ 100000) (h : IsI l i AUTO) : Ev (fun k => line_Read.f k l (i : Int)) ((1 : Int), (0 : Int), (⟨#[]⟩ : ByteArray), ((i + 1 : Nat) : Int), (0 : Int)) := by
  obtain ⟨t, h0, h1, h2⟩ := h
  simp only [line_Read.f]
  exact ev_bind (kw_auto h0 h1 h2 (by omega)) (ev_pos rfl (ev_bindc (rfl : line_auto.f = some (1, 0, (⟨#[]⟩ : ByteArray))) ev_some))
theorem read_name (hi : i ≤ 100000) (hc : custom s = true) (h : IsI l i s) (he : IsE l (i + 1)) : Ev (fun k => line_Read.f k l (i : Int)) ((3 : Int), (0 : Int), s, ((i + 1 : Nat) : Int), (0 : Int)) := by
  obtain ⟨t, h0, h1, h2⟩ := h
  obtain ⟨u, g0, g1, g2⟩ := he
  have hz := custom_size hc
  simp only [line_Read.f]
  refine ev_bind (kw_ident h0 h1 h2 (by omega) (fun x hx => custom_kws hc x (keys_kws x hx))) (ev_neg (by dsimp only; decide) (ev_neg (by dsimp only; decide) (ev_bind (st_name h0 h1 h2 hc (by omega) (by rw [ByteArray.toList_eq]) (st_end g0 g1 g2)) ?_)))
  exact fin_plain (n := 0) (by show ((i + 1 : Nat) : Int) ≠ (i : Int); omega) (by dsimp only; decide) (Or.inl (by dsimp only; decide))
theorem read_num (hi : i ≤ 100000) (hb : -10000 ≤ n ∧ n ≤ 10000) (h0 : n ≠ 0) (h : IsN l i n) (he : IsE l (i + 1)) : Ev (fun k => line_Read.f k l (i : Int)) ((2 : Int), n, (⟨#[]⟩ : ByteArray), ((i + 1 : Nat) : Int), (0 : Int)) := by
  obtain ⟨t, t0, t1, t2⟩ := h
  obtain ⟨u, g0, g1, g2⟩ := he
  simp only [line_Read.f]
  refine ev_bind (kw_no t0 (by omega)) (ev_neg (by dsimp only; decide) (ev_neg (by dsimp only; decide) (ev_bind (st_num t0 t1 t2 hb (by omega) (by decide) (st_end g0 g1 g2)) ?_)))
  exact fin_num (by show ((i + 1 : Nat) : Int) ≠ (i : Int); omega) t0 t1 t2 hb (by omega) h0 (fun h => absurd h (by dsimp only; decide))
theorem read_num_name (hi : i ≤ 100000) (hb : -10000 ≤ n ∧ n ≤ 10000) (h0 : n ≠ 0) (hc : custom s = true) (h : IsN l i n) (hs : IsI l (i + 1) s) (he : IsE l (i + 2)) : Ev (fun k => line_Read.f k l (i : Int)) ((2 : Int), n, s, ((i + 2 : Nat) : Int), (0 : Int)) := by
  obtain ⟨t, t0, t1, t2⟩ := h
  obtain ⟨v, v0, v1, v2⟩ := hs
  obtain ⟨u, g0, g1, g2⟩ := he
  simp only [line_Read.f]
  refine ev_bind (kw_no t0 (by omega)) (ev_neg (by dsimp only; decide) (ev_neg (by dsimp only; decide) (ev_bind (st_num t0 t1 t2 hb (by omega) (by decide) (st_name v0 v1 v2 hc (by omega) (by rw [ByteArray.toList_eq]) (st_end g0 g1 g2))) ?_)))
  exact fin_num (by show ((i + 2 : Nat) : Int) ≠ (i : Int); omega) t0 t1 t2 hb (by omega) h0 (fun h => absurd h (by dsimp only; decide))
theorem read_span_num (hi : i ≤ 100000) (hb : 1 ≤ n ∧ n ≤ 10000) (h : IsI l i SPAN) (hn : IsN l (i + 1) n) (he : IsE l (i + 2)) : Ev (fun k => line_Read.f k l (i : Int)) ((4 : Int), n, (⟨#[]⟩ : ByteArray), ((i + 2 : Nat) : Int), (0 : Int)) := by
  obtain ⟨v, v0, v1, v2⟩ := h
  obtain ⟨t, t0, t1, t2⟩ := hn
  obtain ⟨u, g0, g1, g2⟩ := he
  simp only [line_Read.f]
  refine ev_bind (kw_ident v0 v1 v2 (by decide) span_keys) (ev_neg (by dsimp only; decide) (ev_neg (by dsimp only; decide) (ev_bind (st_span v0 v1 v2 (by omega) (by decide) (by omega) (st_num t0 t1 t2 (by omega) (by omega) (by decide) (st_end g0 g1 g2))) ?_)))
  refine ev_cast (fin_num (by show ((i + 2 : Nat) : Int) ≠ (i : Int); omega) t0 t1 t2 (by omega) (by omega) (by omega) (fun h => by omega)) ?_
  rw [if_neg (by dsimp only; omega)]
theorem read_span_name (hi : i ≤ 100000) (hc : custom s = true) (h : IsI l i SPAN) (hs : IsI l (i + 1) s) (he : IsE l (i + 2)) : Ev (fun k => line_Read.f k l (i : Int)) ((4 : Int), (1 : Int), s, ((i + 2 : Nat) : Int), (0 : Int)) := by
  obtain ⟨v, v0, v1, v2⟩ := h
  obtain ⟨t, t0, t1, t2⟩ := hs
  obtain ⟨u, g0, g1, g2⟩ := he
  simp only [line_Read.f]
  refine ev_bind (kw_ident v0 v1 v2 (by decide) span_keys) (ev_neg (by dsimp only; decide) (ev_neg (by dsimp only; decide) (ev_bind (st_span v0 v1 v2 (by omega) (by decide) (by omega) (st_name t0 t1 t2 hc (by omega) (by rw [ByteArray.toList_eq]) (st_end g0 g1 g2))) ?_)))
  refine ev_cast (fin_plain (n := 0) (by show ((i + 2 : Nat) : Int) ≠ (i : Int); omega) (by dsimp only; decide) (Or.inr (fun e => ?_))) ?_
  · rw [custom_nil e] at hc
    cases hc
  · rw [if_pos (by dsimp only; omega), if_pos (by dsimp only; omega)]
theorem read_span_both (hi : i ≤ 100000) (hb : 1 ≤ n ∧ n ≤ 10000) (hc : custom s = true) (h : IsI l i SPAN) (hn : IsN l (i + 1) n) (hs : IsI l (i + 2) s) (he : IsE l (i + 3)) : Ev (fun k => line_Read.f k l (i : Int)) ((4 : Int), n, s, ((i + 3 : Nat) : Int), (0 : Int)) := by
  obtain ⟨v, v0, v1, v2⟩ := h
  obtain ⟨t, t0, t1, t2⟩ := hn
  obtain ⟨x, x0, x1, x2⟩ := hs
  obtain ⟨u, g0, g1, g2⟩ := he
  simp only [line_Read.f]
  refine ev_bind (kw_ident v0 v1 v2 (by decide) span_keys) (ev_neg (by dsimp only; decide) (ev_neg (by dsimp only; decide) (ev_bind (st_span v0 v1 v2 (by omega) (by decide) (by omega) (st_num t0 t1 t2 (by omega) (by omega) (by decide) (st_name x0 x1 x2 hc (by omega) (by rw [ByteArray.toList_eq]) (st_end g0 g1 g2)))) ?_)))
  refine ev_cast (fin_num (by show ((i + 3 : Nat) : Int) ≠ (i : Int); omega) t0 t1 t2 (by omega) (by omega) (by omega) (fun h => by omega)) ?_
  rw [if_neg (by dsimp only; omega)]
end
end Go.Proofs.YtofdhdafabmhmaaDoor.PureLr
end
section
/- A line comes back from its words, and two of them (layer 7). Conditions: as each theorem says. -/
namespace Go.Proofs.YtofdhdafabmhmaaDoor.PureLs
open Go.RowKit Go.Proofs.YtofdhdafabmhmaaDoorW.PrintWords Go.Proofs.YtofdhdafabmhmaaDoorW.PrintMore Go.Proofs.YtofdhdafabmhmaaDoor.Evs Go.Proofs.YtofdhdafabmhmaaDoor.Opn Go.Proofs.YtofdhdafabmhmaaDoor.PLa Go.Proofs.YtofdhdafabmhmaaDoor.Giv Go.Proofs.YtofdhdafabmhmaaDoor.PureLi Go.Proofs.YtofdhdafabmhmaaDoor.PureLk Go.Proofs.YtofdhdafabmhmaaDoor.PureLr
open Go.Proofs.YtofdhdafabmhmaaDoor.PureIdT (custom)

def Has (l : List S67) (i : Nat) (ws : List W) : Prop := ∀ (j : Nat) (w : W), ws[j]? = some w → ∃ t, l[i + j]? = some t ∧ t.f0 = w.kd ∧ t.f2 = w.tx ∧ t.f3 = w.nm
structure Line (v0 v1 : Int) (nm : ByteArray) (X : List UInt8) (ws : List W) : Prop where
  ok : ∀ w ∈ ws, w.ok
  ne : ws ≠ []
  jn : join ws = X
  len : ws.length ≤ 3
  rd : ∀ (l : List S67) (i : Nat), i ≤ 100000 → Has l i ws → IsE l (i + ws.length) → Ev (fun k => line_Read.f k l (i : Int)) (v0, v1, nm, ((i + ws.length : Nat) : Int), (0 : Int))
def wSpan : W := ⟨SPAN.data.toList, 1, SPAN, ⟨#[]⟩⟩
def wAuto : W := ⟨AUTO.data.toList, 1, AUTO, ⟨#[]⟩⟩
def wNum (n : Int) : W := ⟨(ito n).data.toList, 3, ⟨#[]⟩, ito n⟩
def wName (s : ByteArray) (l : List UInt8) : W := ⟨l, 1, s, ⟨#[]⟩⟩
theorem span_ok : wSpan.ok := name_wrd (s := SPAN) (by decide) (by decide) (by decide) (by decide +kernel)
theorem auto_ok : wAuto.ok := name_wrd (s := AUTO) (by decide) (by decide) (by decide) (by decide +kernel)
theorem num_ok {n : Int} (h : -10000 ≤ n ∧ n ≤ 10000) : (wNum n).ok := num_wrd h
theorem named {nm w : ByteArray} (hc : custom nm = true) (hw : ident_Write.f nm = some w) : ∃ l, w = ⟨l.toArray⟩ ∧ (wName nm l).ok ∧ l ≠ [] := by
  have hz := custom_size hc
  have hne : nm.toList ≠ [] := fun e => by
    rw [custom_nil e] at hc
    cases hc
  rcases PureLx.name_cases nm with ⟨hn, h1, h64, h0⟩ | hn
  · unfold ident_Write.f at hw
    rw [hn, Option.bind_some, if_pos rfl, if_pos (by omega)] at hw
    obtain ⟨l, hl, hw⟩ := Option.bind_eq_some_iff.1 hw
    have ok := name_wrd h1 h64 h0 hl
    exact ⟨l, (Option.some.inj hw).symm, ok, ok.ne⟩
  · exfalso
    unfold custom at hc
    split at hc
    · cases hc
    · rw [PureId.name_f, hc] at hn
      cases hn
section
variable {l : List S67} {i : Nat} {ws : List W} {n : Int} {s : ByteArray} {X : List UInt8}
theorem Has.isI {w : W} {j : Nat} (h : Has l i ws) (hj : ws[j]? = some w) (hk : w.kd = 1) (hs : w.tx = s) : IsI l (i + j) s := by
  obtain ⟨t, h0, h1, h2, _⟩ := h j w hj
  exact ⟨t, h0, by rw [h1, hk], by rw [h2, hs]⟩
theorem Has.isN {w : W} {j : Nat} (h : Has l i ws) (hj : ws[j]? = some w) (hk : w.kd = 3) (hs : w.nm = ito n) : IsN l (i + j) n := by
  obtain ⟨t, h0, h1, _, h3⟩ := h j w hj
  exact ⟨t, h0, by rw [h1, hk], by rw [h3, hs]⟩
end
theorem app_list (a b : ByteArray) : (a ++ b).data.toList = a.data.toList ++ b.data.toList := by simp
theorem mk_list (l : List UInt8) : (⟨l.toArray⟩ : ByteArray).data.toList = l := by simp
/-- The words of a line's text. -/
theorem line_words {v0 v1 : Int} {nm w : ByteArray} (hg : good v0 v1 nm = true) (hw : ident_Write.f nm = some w) : ∃ ws, Line v0 v1 nm (text v0 v1 w).data.toList ws := by
  have G := good_of hg
  have wnil : nm.toList = [] → w = ⟨#[]⟩ := fun e => by
    have hn : PureId.isName nm = false := by
      unfold PureId.isName
      rw [if_pos e]
    unfold ident_Write.f at hw
    rw [PureId.name_f, hn, Option.bind_some, if_neg (by decide)] at hw
    exact (Option.some.inj hw).symm
  have enil : (⟨#[]⟩ : ByteArray).toList = ([] : List UInt8) := by rw [ByteArray.toList_eq]
  have wne : ∀ {l : List UInt8}, w = ⟨l.toArray⟩ → l ≠ [] → w.toList ≠ [] := fun {l} e h => by
    rw [e, ByteArray.toList_eq, mk_list]
    exact h
  rcases G.k with h | h | h | h
  · obtain ⟨h1, h2⟩ := G.a h
    obtain rfl := empty_of h2
    subst h h1
    refine ⟨[wAuto], fun w hw => by rw [List.mem_singleton.1 hw]; exact auto_ok, by simp, rfl, by simp, fun l i hi hh he => ?_⟩
    exact read_auto hi (hh.isI (j := 0) rfl rfl rfl)
  · have h0 := G.b h
    subst h
    have e : text 2 v1 w = numd v1 w := rfl
    rw [e]
    rcases G.c with hc | hc
    · obtain rfl := empty_of hc
      have e2 := wnil enil
      subst e2
      refine ⟨[wNum v1], fun w hw => by rw [List.mem_singleton.1 hw]; exact num_ok G.n, by simp, ?_, by simp, fun l i hi hh he => read_num hi G.n h0 (hh.isN (j := 0) rfl rfl rfl) he⟩
      unfold numd
      rw [if_pos enil]
      rfl
    · obtain ⟨L, e1, ok, hl⟩ := named hc hw
      refine ⟨[wNum v1, wName nm L], fun w hw => ?_, by simp, ?_, by simp, fun l i hi hh he => read_num_name hi G.n h0 hc (hh.isN (j := 0) rfl rfl rfl) (hh.isI (j := 1) rfl rfl rfl) he⟩
      · rcases List.mem_cons.1 hw with rfl | hw
        · exact num_ok G.n
        · rw [List.mem_singleton.1 hw]
          exact ok
      · unfold numd
        rw [if_neg (wne e1 hl), app_list, app_list, e1, mk_list]
        rfl
  · obtain ⟨h1, hc⟩ := G.d h
    subst h h1
    obtain ⟨L, e1, ok, hl⟩ := named hc hw
    refine ⟨[wName nm L], fun w hw => by rw [List.mem_singleton.1 hw]; exact ok, by simp, ?_, by simp, fun l i hi hh he => read_name hi hc (hh.isI (j := 0) rfl rfl rfl) he⟩
    show L = w.data.toList
    rw [e1, mk_list]
  · have h1 := G.s h
    have hn := G.n
    subst h
    have e : text 4 v1 w = if w.toList = ([] : List UInt8) then span (ito v1) else if v1 = 1 then span w else span (numd v1 w) := rfl
    rw [e]
    rcases G.c with hc | hc
    · obtain rfl := empty_of hc
      have e2 := wnil enil
      subst e2
      rw [if_pos enil]
      refine ⟨[wSpan, wNum v1], fun w hw => ?_, by simp, ?_, by simp, fun l i hi hh he => read_span_num hi ⟨h1, hn.2⟩ (hh.isI (j := 0) rfl rfl rfl) (hh.isN (j := 1) rfl rfl rfl) he⟩
      · rcases List.mem_cons.1 hw with rfl | hw
        · exact span_ok
        · rw [List.mem_singleton.1 hw]
          exact num_ok hn
      · unfold span
        rw [app_list]
        rfl
    · obtain ⟨L, e1, ok, hl⟩ := named hc hw
      rw [if_neg (wne e1 hl)]
      by_cases h2 : v1 = 1
      · rw [if_pos h2]
        subst h2
        refine ⟨[wSpan, wName nm L], fun w hw => ?_, by simp, ?_, by simp, fun l i hi hh he => read_span_name hi hc (hh.isI (j := 0) rfl rfl rfl) (hh.isI (j := 1) rfl rfl rfl) he⟩
        · rcases List.mem_cons.1 hw with rfl | hw
          · exact span_ok
          · rw [List.mem_singleton.1 hw]
            exact ok
        · unfold span
          rw [app_list, e1, mk_list]
          rfl
      · rw [if_neg h2]
        refine ⟨[wSpan, wNum v1, wName nm L], fun w hw => ?_, by simp, ?_, by simp, fun l i hi hh he => read_span_both hi ⟨h1, hn.2⟩ hc (hh.isI (j := 0) rfl rfl rfl) (hh.isN (j := 1) rfl rfl rfl) (hh.isI (j := 2) rfl rfl rfl) he⟩
        · rcases List.mem_cons.1 hw with rfl | hw
          · exact span_ok
          · rcases List.mem_cons.1 hw with rfl | hw
            · exact num_ok hn
            · rw [List.mem_singleton.1 hw]
              exact ok
        · unfold span numd
          rw [if_neg (wne e1 hl), app_list, app_list, app_list, e1, mk_list]
          rfl
/-! ### The lexer's words -/
theorem toks_get : ∀ (ws : List W) (p j : Nat) (w : W), ws[j]? = some w → ∃ t, (toks p ws)[j]? = some t ∧ t.f0 = w.kd ∧ t.f2 = w.tx ∧ t.f3 = w.nm
  | [], _, _, _, h => by cases h
  | x :: ws, p, 0, w, h => by
    obtain rfl := Option.some.inj h
    exact ⟨_, rfl, rfl, rfl, rfl⟩
  | x :: ws, p, j + 1, w, h => by
    obtain ⟨t, h0, h1⟩ := toks_get ws (p + x.L.length + 1) j w h
    exact ⟨t, h0, h1⟩
/-- A text's words, and its end. -/
def all (ws : List W) (z : Nat) : List S67 := toks 0 ws ++ [⟨8, (z : Int), ⟨#[]⟩, ⟨#[]⟩⟩]
theorem all_length (ws : List W) (z : Nat) : (all ws z).length = ws.length + 1 := by
  unfold all
  rw [List.length_append, toks_length]
  rfl
theorem all_end (ws : List W) (z : Nat) : (all ws z)[ws.length]? = some ⟨8, (z : Int), ⟨#[]⟩, ⟨#[]⟩⟩ := by
  unfold all
  rw [List.getElem?_append_right (by rw [toks_length]; exact Nat.le_refl _), toks_length, Nat.sub_self]
  rfl
theorem all_has (ws a b : List W) (z : Nat) (h : ws = a ++ b) : Has (all ws z) a.length b := fun j w hj => by
  have hw : ws[a.length + j]? = some w := by rw [h, List.getElem?_append_right (by omega), Nat.add_sub_cancel_left, hj]
  obtain ⟨t, h0, h1⟩ := toks_get ws 0 (a.length + j) w hw
  refine ⟨t, ?_, h1⟩
  unfold all
  rw [List.getElem?_append_left (by exact (List.getElem?_eq_some_iff.1 h0).1)]
  exact h0
theorem Has.left {l : List S67} {i : Nat} {a b : List W} (h : Has l i (a ++ b)) : Has l i a := fun j w hj => h j w (by rw [List.getElem?_append_left (List.getElem?_eq_some_iff.1 hj).1]; exact hj)
theorem join_app : ∀ (a b : List W), a ≠ [] → b ≠ [] → join (a ++ b) = join a ++ 32 :: join b
  | [], _, h, _ => absurd rfl h
  | [x], b, _, hb => by rw [List.singleton_append, join_cons x b hb]; rfl
  | x :: y :: a, b, _, hb => by
    rw [List.cons_append, join_cons x ((y :: a) ++ b) (by simp), join_app (y :: a) b (by simp) hb, join_cons x (y :: a) (by simp), List.append_assoc]
    rfl
theorem words_f {T : ByteArray} (hT : T.size ≤ 100000) (ws : List W) (h0 : ws ≠ []) (hok : ∀ w ∈ ws, w.ok) (hj : T.data.toList = join ws) (hn : ws.length ≤ 1000) : Ev (fun k => parterrelaw07_words.f k T) (all ws T.size) := by
  simp only [parterrelaw07_words.f]
  exact ev_pos (by omega) (ev_bind (words_ev hT ws h0 hok hj hn) (ev_eq rfl))
def wSlash : W := ⟨[47], 7, ⟨#[47]⟩, ⟨#[]⟩⟩
theorem sign_at {l : List S67} {i : Nat} {t : S67} (h : l[i]? = some t) {b : Bool} (hb : b = (decide (t.f0 = 7) && (t.f2.toList == (⟨#[47]⟩ : ByteArray).toList))) : value_Sign.f l (i : Int) ⟨#[47]⟩ = some b := by
  unfold value_Sign.f
  rw [word_f h, Option.bind_some]
  subst hb
  by_cases e : t.f0 = 7
  · rw [if_pos e, decide_eq_true e, Bool.true_and]
  · rw [if_neg e, decide_eq_false e, Bool.false_and]
/-- One line alone. -/
theorem lines_one {l : List S67} {v0 v1 : Int} {nm : ByteArray} {m j : Nat} {t : S67} (hm : m ≠ 1) (hr : Ev (fun k => line_Read.f k l 0) (v0, v1, nm, (j : Int), (0 : Int))) (ht : l[j]? = some t) (h7 : t.f0 ≠ 7) :
    Ev (fun k => line_lines.f k l 0 (m : Int)) ([⟨v0, v1, nm⟩], (j : Int), (0 : Int)) := by
  simp only [line_lines.f]
  refine ev_step ?_
  simp only [line_lines.l0]
  exact ev_bind hr (ev_pos rfl (ev_pos (by simp) (ev_let (ev_neg (by show ¬ ((1 : Nat) : Int) = (m : Int); omega) (ev_bindc (sign_at ht (b := false) (by rw [decide_eq_false h7, Bool.false_and])) (ev_neg (by decide) ev_some))))))
theorem lines_two {l : List S67} {v0 v1 u0 u1 : Int} {nm um : ByteArray} {j i : Nat} {t : S67} (hj : j ≤ 100000) (hr : Ev (fun k => line_Read.f k l 0) (v0, v1, nm, (j : Int), (0 : Int))) (ht : l[j]? = some t) (h7 : t.f0 = 7) (h2 : t.f2 = ⟨#[47]⟩)
    (hr2 : Ev (fun k => line_Read.f k l ((j + 1 : Nat) : Int)) (u0, u1, um, (i : Int), (0 : Int))) : Ev (fun k => line_lines.f k l 0 2) ([⟨v0, v1, nm⟩, ⟨u0, u1, um⟩], (i : Int), (0 : Int)) := by
  have hw : wrap64 ((j : Int) + 1) = ((j + 1 : Nat) : Int) := by
    rw [w64 (by omega) (by omega)]
    rfl
  simp only [line_lines.f]
  refine ev_step ?_
  simp only [line_lines.l0]
  refine ev_bind hr (ev_pos rfl (ev_pos (by simp) (ev_let (ev_neg (by show ¬ ((1 : Nat) : Int) = 2; decide) (ev_bindc (sign_at ht (b := true) (by rw [decide_eq_true h7, h2]; simp)) (ev_pos rfl ?_))))))
  rw [hw]
  refine ev_step ?_
  simp only [line_lines.l0]
  exact ev_bind hr2 (ev_pos rfl (ev_pos (by simp) (ev_let (ev_pos rfl ev_some))))
end Go.Proofs.YtofdhdafabmhmaaDoor.PureLs
end
section
/- LineBack, as a statement on numbers and bytes. Conditions: none beyond the arguments' own kinds. -/
namespace Go.Proofs.YtofdhdafabmhmaaDoor.Pure
open Go.RowKit Go.Proofs.YtofdhdafabmhmaaDoorW.PrintWords Go.Proofs.YtofdhdafabmhmaaDoorW.PrintMore Go.Proofs.YtofdhdafabmhmaaDoor.Evs Go.Proofs.YtofdhdafabmhmaaDoor.Opn Go.Proofs.YtofdhdafabmhmaaDoor.PLa Go.Proofs.YtofdhdafabmhmaaDoor.Giv Go.Proofs.YtofdhdafabmhmaaDoor.PureLi Go.Proofs.YtofdhdafabmhmaaDoor.PureLk Go.Proofs.YtofdhdafabmhmaaDoor.PureLr Go.Proofs.YtofdhdafabmhmaaDoor.PureLs
open Go.Proofs.YtofdhdafabmhmaaDoor.PureIdT (L kws kws_low custom)
theorem line_lives : Ev (fun k => parterrelaw07_lives.f k) true := Ev.of (fun k => parterrelaw07_lives.mono k) (k := 100) (by decide +kernel)
theorem custom_big (s : ByteArray) (hs : s.size ≤ 140737488351232) : ident_Custom.f s = some (custom s) := by
  have e : kws.any (fun x => (L s).toList == (L x).toList) = (kws.map (fun x => (L x).data.toList)).any (fun x => (L s).toList == x) := by
    rw [List.any_map]
    congr 1
    funext x
    simp only [Function.comp, ByteArray.toList_eq]
  have hl : ident_Lower.f s = some (L s) := if_pos hs
  unfold ident_Custom.f custom
  rw [hl, e, kws_low, PureId.name_f]
  simp only [Option.bind_some, List.any_cons, List.any_nil]
  generalize (L s).toList = x
  repeat' first
    | rfl
    | (split <;> rename_i h1 <;> first | (subst h1; rfl) | skip)
  simp_all
theorem lgood_big (v0 v1 : Int) (nm : ByteArray) (hs : nm.size ≤ 140737488351232) : Ev (fun k => line_Good.f k v0 v1 nm) (good v0 v1 nm) := by
  simp only [line_Good.f]
  exact ev_ite (fun h => good_j0 _ _ _ _ (by rw [if_pos h])) (fun h => ev_bindc (custom_big nm hs) (good_j0 _ _ _ _ (by rw [if_neg h])))
theorem write_any (s : ByteArray) (hs : s.size ≤ 64) : ∃ w, ident_Write.f s = some w := by
  rcases PureLx.name_cases s with ⟨hn, h1, h64, h0⟩ | hn
  · obtain ⟨l, hl⟩ := PureLx.write_cat s (by omega) s.size (Nat.le_refl _)
    exact ⟨⟨l.toArray⟩, by unfold ident_Write.f; rw [hn, Option.bind_some, if_pos rfl, if_pos (by omega), hl]; rfl⟩
  · exact ⟨⟨#[]⟩, by unfold ident_Write.f; rw [hn]; rfl⟩
section
variable {l : List S67} {v0 v1 u0 u1 : Int} {nm um : ByteArray} {j : Nat}
theorem pair_one (h : Ev (fun k => line_lines.f k l 0 2) ([⟨v0, v1, nm⟩], (j : Int), (0 : Int))) : Ev (fun k => line_Pair.f k l 0) (v0, v1, nm, (other v0 v1 nm).1, (other v0 v1 nm).2.1, (other v0 v1 nm).2.2, (j : Int), (0 : Int)) := by
  have hm : line_Pair.more [⟨v0, v1, nm⟩] = some [⟨v0, v1, nm⟩, ⟨(other v0 v1 nm).1, (other v0 v1 nm).2.1, (other v0 v1 nm).2.2⟩] := by
    unfold line_Pair.more
    rw [if_pos (by simp)]
    show (line_other.f v0 v1 nm).bind _ = _
    rw [lother]
    rfl
  simp only [line_Pair.f]
  exact ev_bind h (ev_pos rfl (ev_bindc hm (ev_pos rfl (ev_eq rfl))))
theorem pair_two (h : Ev (fun k => line_lines.f k l 0 2) ([⟨v0, v1, nm⟩, ⟨u0, u1, um⟩], (j : Int), (0 : Int))) : Ev (fun k => line_Pair.f k l 0) (v0, v1, nm, u0, u1, um, (j : Int), (0 : Int)) := by
  simp only [line_Pair.f]
  exact ev_bind h (ev_pos rfl (ev_bindc (by unfold line_Pair.more; exact if_neg (by simp)) (ev_pos rfl (ev_eq rfl))))
end
theorem pos_false {a b : Int} (h : a = b) : (a != b) = false := by simp [h]
theorem end_pos (ws : List W) (z : Nat) (h : ws.length ≤ 100) : wrap64 (((all ws z).length : Int) - 1) = ((ws.length : Nat) : Int) := by
  rw [all_length, w64 (by omega) (by omega)]
  omega
theorem one_read {v0 v1 : Int} {nm : ByteArray} {X : List UInt8} {ws : List W} (h : Line v0 v1 nm X ws) (z : Nat) : Ev (fun k => line_Read.f k (all ws z) 0) (v0, v1, nm, ((ws.length : Nat) : Int), (0 : Int)) := by
  have := h.rd (all ws z) 0 (Nat.zero_le _) (all_has ws [] ws z rfl) ⟨_, by rw [Nat.zero_add]; exact all_end ws z, by show (8 : Int) ≠ 1; decide, by show (8 : Int) ≠ 3; decide⟩
  rw [Nat.zero_add] at this
  exact this
/-- Two words apart. -/
theorem two_read {v0 v1 u0 u1 : Int} {nm um : ByteArray} {X Y : List UInt8} {ws ys : List W} (h : Line v0 v1 nm X ws) (g : Line u0 u1 um Y ys) (z : Nat) :
    Ev (fun k => line_lines.f k (all (ws ++ wSlash :: ys) z) 0 2) ([⟨v0, v1, nm⟩, ⟨u0, u1, um⟩], (((ws ++ wSlash :: ys).length : Nat) : Int), (0 : Int)) := by
  have hl := h.len
  have hl2 := g.len
  have hz : (ws ++ wSlash :: ys).length = ws.length + 1 + ys.length := by
    rw [List.length_append, List.length_cons]
    omega
  obtain ⟨t, t0, t1, t2, _⟩ := all_has (ws ++ wSlash :: ys) ws (wSlash :: ys) z rfl 0 wSlash rfl
  have ha : Has (all (ws ++ wSlash :: ys) z) 0 ws := Has.left (all_has (ws ++ wSlash :: ys) [] (ws ++ wSlash :: ys) z rfl)
  have hr := h.rd _ 0 (Nat.zero_le _) ha ⟨t, by rw [Nat.zero_add]; exact t0, by rw [t1]; decide, by rw [t1]; decide⟩
  rw [Nat.zero_add] at hr
  have hb : Has (all (ws ++ wSlash :: ys) z) (ws.length + 1) ys := by
    have := all_has (ws ++ wSlash :: ys) (ws ++ [wSlash]) ys z (by rw [List.append_assoc]; rfl)
    rw [List.length_append] at this
    exact this
  have hr2 := g.rd _ (ws.length + 1) (by omega) hb ⟨_, by rw [← hz]; exact all_end _ z, by show (8 : Int) ≠ 1; decide, by show (8 : Int) ≠ 3; decide⟩
  rw [hz]
  exact lines_two (by omega) hr t0 (by rw [t1]; rfl) (by rw [t2]; rfl) hr2
theorem LineBack : parterrelaw07_LineBack.Pure := by
  intro v0 v1 nm u0 u1 um g1 g2
  have z1 : nm.size ≤ 140737488351232 := g1.2.2
  have z2 : um.size ≤ 140737488351232 := g2.2.2
  refine Ev.rounds ?_
  have jT : Ev (fun k => parterrelaw07_LineBack.j0 k true v0 v1 nm u0 u1 um) true := ev_step (by simp only [parterrelaw07_LineBack.j0]; exact ev_pos (by trivial) (ev_bind line_lives ev_some))
  simp only [parterrelaw07_LineBack.f]
  refine ev_bind (lgood_big _ _ _ z1) (ev_ite (fun hg => ev_bind (lgood_big _ _ _ z2) ?_) (fun _ => jT))
  by_cases hh : good u0 u1 um = true
  rotate_left
  · rw [Bool.eq_false_iff.2 hh]
    exact jT
  rw [hh]
  have G := good_of hg
  have H := good_of hh
  obtain ⟨w, hw⟩ := write_any nm G.z
  obtain ⟨w', hw'⟩ := write_any um H.z
  obtain ⟨ws, hl⟩ := line_words hg hw
  obtain ⟨ys, kl⟩ := line_words hh hw'
  have tz := text_size hg hw
  have tz' := text_size hh hw'
  have lz := hl.len
  have kz := kl.len
  have a1 := ltext hg hw
  have a2 := ltext hh hw'
  have b1 := words_f (T := text v0 v1 w) (by omega) ws hl.ne hl.ok hl.jn.symm (by omega)
  have e3 : (⟨#[32, 47, 32]⟩ : ByteArray).size = 3 := rfl
  have last : ∀ {T : ByteArray} {q : List S67} {p : Int}, Ev (fun k => line_PairText.f k v0 v1 nm u0 u1 um) T → Ev (fun k => parterrelaw07_words.f k T) q → Ev (fun k => line_Pair.f k q 0) (v0, v1, nm, u0, u1, um, p, (0 : Int)) → p = wrap64 ((q.length : Int) - 1) →
      Ev (fun k => parterrelaw07_LineBack.j1 k false v0 v1 nm u0 u1 um) true := fun {T q p} h1 h2 h3 h4 => by
    refine ev_step ?_
    simp only [parterrelaw07_LineBack.j1]
    exact ev_neg (by decide) (ev_bind h1 (ev_bind h2 (ev_bind h3 (ev_pos rfl (ev_pos (by simp) (ev_pos (by simp) (ev_pos h4 (ev_bind line_lives ev_some))))))))
  have key : Ev (fun k => parterrelaw07_LineBack.j1 k false v0 v1 nm u0 u1 um) true := by
    have pt : ∀ {T : ByteArray}, Ev (fun k => line_PairText.j0 k false v0 v1 nm u0 u1 um) T → Ev (fun k => line_PairText.f k v0 v1 nm u0 u1 um) T := fun {T} h => by
      simp only [line_PairText.f]
      refine ev_bind (lgood_big _ _ _ z1) (ev_pos hg (ev_bind (lgood_big _ _ _ z2) ?_))
      rw [hh]
      exact h
    by_cases e : (u0 == (other v0 v1 nm).1 && (u1 == (other v0 v1 nm).2.1 && (um.toList == (other v0 v1 nm).2.2.toList))) = true
    · refine last (T := text v0 v1 w) (q := all ws (text v0 v1 w).size) (p := ((ws.length : Nat) : Int)) (pt (ev_step ?_)) b1 ?_ (end_pos ws _ (by omega)).symm
      · simp only [line_PairText.j0]
        exact ev_neg (by decide) (ev_bindc (lother _ _ _) (ev_pos e (ev_bind a1 ev_some)))
      · have p1 := pair_one (lines_one (m := 2) (by decide) (one_read hl (text v0 v1 w).size) (all_end ws _) (by show (8 : Int) ≠ 7; decide))
        simp only [Bool.and_eq_true, beq_iff_eq] at e
        obtain ⟨e1, e2, e4⟩ := e
        have e5 : um = (other v0 v1 nm).2.2 := Go.WideShapes.bytes_inj (by rw [ByteArray.toList_eq, ByteArray.toList_eq] at e4; exact e4)
        rw [← e1, ← e2, ← e5] at p1
        exact p1
    · have cz := ws.length
      have c1 : ((text v0 v1 w ++ (⟨#[32, 47, 32]⟩ : ByteArray)) ++ text u0 u1 w').data.toList = join (ws ++ wSlash :: ys) := by
        rw [join_app ws (wSlash :: ys) hl.ne (by simp), join_cons wSlash ys kl.ne, app_list, app_list, hl.jn, kl.jn]
        simp [wSlash]
      have c2 : ((text v0 v1 w ++ (⟨#[32, 47, 32]⟩ : ByteArray)) ++ text u0 u1 w').size ≤ 100000 := by
        rw [ByteArray.size_append, ByteArray.size_append]
        omega
      have hz : (ws ++ wSlash :: ys).length = ws.length + 1 + ys.length := by
        rw [List.length_append, List.length_cons]
        omega
      refine last (pt (ev_step ?_)) (words_f c2 (ws ++ wSlash :: ys) (by simp) (fun x hx => ?_) c1 (by omega)) (pair_two (two_read hl kl _)) (end_pos _ _ (by omega)).symm
      · simp only [line_PairText.j0]
        exact ev_neg (by decide) (ev_bindc (lother _ _ _) (ev_neg e (ev_bind a1 (ev_pos (by omega) (ev_bind a2 (ev_pos (by rw [ByteArray.size_append]; omega) ev_some))))))
      · rcases List.mem_append.1 hx with hx | hx
        · exact hl.ok x hx
        · rcases List.mem_cons.1 hx with rfl | hx
          · exact sign_wrd
          · exact kl.ok x hx
  refine ev_step ?_
  simp only [parterrelaw07_LineBack.j0]
  refine ev_neg (by decide) (ev_bind a1 (ev_bind b1 (ev_bind (one_read hl _) (ev_pos rfl (ev_neg (by simp) ?_)))))
  rw [pos_false (end_pos ws _ (by omega)).symm]
  exact key
end Go.Proofs.YtofdhdafabmhmaaDoor.Pure
end
section
/- The statement LineBack: whatever the arguments are, the law answers true, and they read behind the call as they read before. Conditions: none. -/
namespace Go.Proofs.YtofdhdafabmhmaaDoor.lineBack
open Go.ChangeShapes Go.WideShapes Go.ChangeAt Go.RowKit
open Go.ChangeMaps (open_string shut_string)
open Go.Proofs.YtofdhdafabmhmaaDoor.Opn Go.Proofs.YtofdhdafabmhmaaDoor.PLa
open Go.Proofs.YtofdhdafabmhmaaDoorW.PrintWords
theorem own : ownKnob Tryd.prog.godebug = none := by kernel_rfl
theorem laidOut : laidOutB Tryd.prog = true := by kernel_rfl
set_option maxRecDepth 100000 in
theorem lifted (os : Os) (started : os.Started) (H : Type) (enc : TypeId × Value → H) :
    ReturnsInHanded {} Tryd.checked os 6 .any (fun w args => (Rows.lineBackSpec.pre enc Tryd.prog Tryd.f6 [] false w args ∧ laidMetH Tryd.prog Dor.laid w) ∧ sizedMet enc Tryd.prog Tryd.f6 (OpenSpec.ofChange Rows.lineBackSpec) false w args) (Rows.lineBackSpec.post enc Tryd.prog Tryd.f6 false true false false) := by
  refine returnsInHanded_of_change_and (C := Tryd.checked) (X := fun w _ => laidMetH Tryd.prog Dor.laid w) (fun _ _ _ hh h => h.of_heap hh) own started (by kernel_rfl) Tryd.func6
    (ChangeSpec.witness_shaped (enc := enc) (C := Tryd.checked) (os := os) (X := fun w _ => laidMetH Tryd.prog Dor.laid w) false (World.doorLaid Tryd.prog 1000 os) #[.agg #[.int .i64 0, .int .i64 0, .string ByteArray.empty], .agg #[.int .i64 0, .int .i64 0, .string ByteArray.empty]] 8 rfl (World.shaped_of_RefB (by kernel_rfl) (by kernel_rfl)) (by kernel_rfl) (by kernel_rfl) (by kernel_rfl) (Dor.met os _)) ?_
  intro W base args ds gs before hval0 hW hcnd hsz0 hL _
  have hsz : (DataW.weightsEach Tryd.prog (Tryd.f6.params.toList ++ Rows.lineBackSpec.plain.varTypes Tryd.prog) (ds ++ gs)).all (· ≤ reachBytes) = true := hsz0
  have hval : ∀ (j : Nat) t v, Tryd.f6.params[j]? = some t → args[j]? = some v → Value.okWide Tryd.prog W .any base t v := hval0
  have hW' := hW
  obtain ⟨p, q, hA0, hV, rfl, hfz, hnd⟩ := hW
  have hA : DataW.TrodAll enc Tryd.prog W 0 (fun _ => true) true Tryd.f6.params.toList args.toList ds p := hA0
  rw [Tryd.params6] at hA hval hsz
  obtain ⟨v0, vs0, d0, ds0, p0, q0, hargs, rfl, rfl, h0, r0⟩ := trodAll_cons hA
  obtain ⟨v1, vs1, d1, ds1, p1, q1, rfl, rfl, rfl, h1, r1⟩ := trodAll_cons r0
  obtain ⟨rfl, rfl, rfl⟩ := trodAll_nil r1
  obtain rfl : args = #[v0, v1] := by cases args; simp_all
  obtain ⟨rfl, rfl⟩ := trodVars_none hV
  obtain ⟨cs0, rfl, _⟩ := okWide_struct Tryd.underlying41 (hval 0 41 v0 rfl rfl)
  have k0 := h0
  have lt0 : ∀ x ∈ p0, x.block < W.heap.size := by obtain ⟨m, hm⟩ := k0; exact DataW.trod_lt m _ _ _ hm
  obtain ⟨x0, hK0, hg0⟩ := arg_agg o41 h0 (weighs hsz (j := 0) (t := 41) rfl rfl)
  obtain rfl := array_of (k41_open hK0)
  obtain ⟨cs1, rfl, _⟩ := okWide_struct Tryd.underlying41 (hval 1 41 v1 rfl rfl)
  have k1 := h1
  have lt1 : ∀ x ∈ p1, x.block < W.heap.size := by obtain ⟨m, hm⟩ := k1; exact DataW.trod_lt m _ _ _ hm
  obtain ⟨x1, hK1, hg1⟩ := arg_agg o41 h1 (weighs hsz (j := 1) (t := 41) rfl rfl)
  obtain rfl := array_of (k41_open hK1)
  clear hA0 hval0 hsz0 hsz
  obtain ⟨k, hk⟩ := Pure.LineBack x0.f0 x0.f1 x0.f2 x1.f0 x1.f1 x1.f2 hg0 hg1
  refine (PLa.parterrelaw07_LineBack.calls k x0.f0 x0.f1 x0.f2 x1.f0 x1.f1 x1.f2 true W  hk (Dor.tab_of hL)).mono fun e W' ⟨he, bel0⟩ => ?_
  have bel : Below W.heap.size W W' := bel0
  subst he
  exact ⟨_, rfl, _, _, _, [], _, [], hW', trodAll_mk1 (shut_bool Tryd.underlying4 _), (trodAll_cons_mk (Below.trod laidOut (by kernel_rfl) (of_decide_eq_true (by kernel_rfl)) k0 bel lt0) (trodAll_cons_mk (Below.trod laidOut (by kernel_rfl) (of_decide_eq_true (by kernel_rfl)) k1 bel lt1) trodAll_mk0)), rfl, bel.frame _, fun h => by cases h⟩
theorem over : Rows.lineBackRow.holds Tryd.pinned (OpenSpec.ofChange Rows.lineBackSpec) :=
  OpenClaim.holds_of_wide 6 Tryd.f6 rfl rfl rfl rfl rfl rfl rfl ⟨rfl, rfl, rfl, rfl, rfl⟩ rfl rfl rfl rfl rfl (by kernel_rfl) Tryd.func6 (by kernel_rfl)
    (of_decide_eq_true (by kernel_rfl)) (by unfold Func.isWrapper; first | (rw [if_pos (by decide +kernel)]; kernel_rfl) | (rw [if_neg (by decide +kernel)]; exact ⟨rfl, rfl⟩))
    (fun os started H enc _ => lifted os started H enc)
theorem card_holds : Rows.LineBackCardSaid :=
  Claim7.holds_tied_plain_at .later [] [.data, .data, .data] true (true, "337d80b408899af679114773d9a5a4e4cbe6b1166ff577fdd8390ef57ed50a1f") true
    over (fun _ h => by cases h) (by kernel_rfl) (fun _ h => by cases h) lineBack_row_tie rfl ⟨rfl, rfl⟩ (by kernel_rfl) rfl
    (fun f fn hf hfn => by
      obtain rfl : f = 6 := Option.some.inj ((show Tryd.prog.funcNamed "parterre/parterrelaw07.LineBack" = some 6 by kernel_rfl).symm.trans hf) |>.symm
      obtain rfl : fn = Tryd.f6 := (Option.some.inj (Tryd.func6.symm.trans hfn)).symm
      exact ⟨by kernel_rfl, fun j t ht => by
        rw [Tryd.params6] at ht
        have hm : t ∈ [41, 41] := by simpa using Array.mem_of_getElem? ht
        have hall : ([41, 41].all fun u => !Tryd.prog.wantsStandIn u) = true := by kernel_rfl
        exact (show Tryd.prog.wantsStandIn t = false by simpa using List.all_eq_true.1 hall t hm)⟩)
    (by kernel_rfl)
#print axioms card_holds
end Go.Proofs.YtofdhdafabmhmaaDoor.lineBack
namespace Go.Proofs.YtofdhdafabmhmaaDoor
/-- The card, under a short name, for the claim. -/
theorem lineBack_card : Rows.LineBackCardSaid := lineBack.card_holds
end Go.Proofs.YtofdhdafabmhmaaDoor
end
