/- LineFoursCardSaid, part 13 of 13: the statement itself, and what it stands on. Conditions: none beyond what the statements say. -/
import Derived.Test.YtofdhdafabmhmaaDoorKL40
import Derived.Test.YtofdhdafabmhmaaDoorKL46
import Derived.Test.YtofdhdafabmhmaaDoorKL47
import Derived.Test.YtofdhdafabmhmaaDoorKL48
import Derived.Test.YtofdhdafabmhmaaDoorKL411
import Derived.Test.YtofdhdafabmhmaaDoorKL49
import Derived.Test.YtofdhdafabmhmaaDoorKL43
import Derived.Test.YtofdhdafabmhmaaDoorKL410
import Derived.Test.YtofdhdafabmhmaaDoorRows
import Derived.Test.YtofdhdafabmhmaaDoorCards
import Derived.Test.YtofdhdafabmhmaaDoorTie
import Derived.Test.YtofdhdafabmhmaaDoorKL42
import Derived.SevenTiedAt
import Derived.LaidMore
import Derived.Stop.Joined
import Derived.Test.YtofdhdafabmhmaaDoorKL41
import Derived.WalkKit
import Derived.ProofKit
import Derived.OpenShut
import Derived.ShutString
import Derived.ChangeOld
import Derived.Below
import Derived.SizedLaws
import Derived.Carry
set_option linter.unusedVariables false
set_option linter.unusedSimpArgs false
section
/- Words read as a line (layer 7). Conditions: as each theorem says. -/
namespace Go.Proofs.YtofdhdafabmhmaaDoor.PureLr
open Go.RowKit Go.Proofs.YtofdhdafabmhmaaDoorW.PrintWords Go.Proofs.YtofdhdafabmhmaaDoorW.PrintMore Go.Proofs.YtofdhdafabmhmaaDoor.Evs Go.Proofs.YtofdhdafabmhmaaDoor.Opn Go.Proofs.YtofdhdafabmhmaaDoor.PLf4 Go.Proofs.YtofdhdafabmhmaaDoor.Giv Go.Proofs.YtofdhdafabmhmaaDoor.PureLi Go.Proofs.YtofdhdafabmhmaaDoor.PureLk
open Go.Proofs.YtofdhdafabmhmaaDoor.PureIdT (L lower_f is_f custom custom_f kws lowN)
open Go.Proofs.YtofdhdafabmhmaaDoor.PureTu (isD)

def SPAN : ByteArray := ⟨#[115, 112, 97, 110]⟩
def AUTO : ByteArray := ⟨#[97, 117, 116, 111]⟩
section
variable {l : List S67} {i : Nat} {t : S67}
theorem at_lt (h : l[i]? = some t) : i < l.length := (List.getElem?_eq_some_iff.1 h).1
theorem rd_get (h : l[i]? = some t) : rd_T67 l (i : Int) = t := by
  unfold rd_T67; rw [Int.toNat_natCast, List.getD_eq_getElem?_getD, h]; rfl
theorem word_f (h : l[i]? = some t) : value_word.f l (i : Int) = some (t.f0, t.f1, t.f2, t.f3) := by
  have := at_lt h
  unfold value_word.f; rw [if_neg (by omega), if_neg (by omega), if_pos (by omega), if_pos (by omega), rd_get h]
theorem int_no (h : l[i]? = some t) (h3 : t.f0 ≠ 3) : Ev (fun k => value_Integer.f k l (i : Int)) ((0 : Int), (i : Int), (50 : Int)) := by
  simp only [value_Integer.f]; refine ev_bindc (word_f h) (ev_neg h3 (ev_step ?_))
  simp only [value_Integer.j0]; exact ev_pos (by trivial) ev_some
theorem index_none {x : List UInt8} {c : UInt8} (h : ∀ b ∈ x, b ≠ c) : Lib.indexByte x c < 0 := by
  rcases Int.lt_or_le (Lib.indexByte x c) 0 with h1 | h1
  · exact h1
  obtain ⟨m, hm⟩ := Int.eq_ofNat_of_zero_le h1; exact absurd rfl (h c (List.mem_of_getElem? (Lib.indexByte_some hm).1))
theorem no_byte {s : ByteArray} {c : UInt8} (h : ∀ b ∈ s.data.toList, b ≠ c) : strings_Contains.f s ⟨#[c]⟩ = some false := by
  unfold strings_Contains.f strings_Index.f; rw [if_pos (show (⟨#[c]⟩ : ByteArray).size = 1 from rfl)]; show some (decide (Lib.indexByte s.data.toList c ≥ 0)) = _
  rw [df_ (by have := index_none h; omega)]
theorem ito_byte {n : Int} (h : -10000 ≤ n ∧ n ≤ 10000) : ∀ b ∈ (ito n).data.toList, b = 45 ∨ (48 ≤ b.toNat ∧ b.toNat ≤ 57) := fun b hb => by
  obtain ⟨sg, W, he, hsg, hW, _⟩ := ito_bytes n h; have hm : (b.toNat : Int) ∈ bytesOf (ito n) := List.mem_map.2 ⟨b, hb, rfl⟩; rw [he] at hm; rcases List.mem_append.1 hm with hm | hm
  · rcases hsg with rfl | rfl
    · cases hm
    have : (b.toNat : Int) = 45 := by simpa using hm
    exact Or.inl (UInt8.toNat_inj.1 (by show b.toNat = 45; omega))
  have := od_ (hW _ hm)
  exact Or.inr ⟨by omega, by omega⟩
theorem low_byte {n : Int} (h : -10000 ≤ n ∧ n ≤ 10000) : ∀ b ∈ (L (ito n)).data.toList, b ≠ 101 := fun b hb => by
  have h1 : (L (ito n)).data.toList = (lowN (ito n) (ito n).size).map (fun c => UInt8.ofNat c.toNat) := rfl; rw [h1] at hb; obtain ⟨c, hc, rfl⟩ := List.mem_map.1 hb; obtain ⟨j, hj, rfl⟩ := List.mem_map.1 hc; have hlt := List.mem_range.1 hj; have hx := List.getElem?_eq_getElem (show j < (ito n).data.toList.length by rw [data_length]; exact hlt); rw [(PureLx.bt_list hx).2]; rcases ito_byte h _ (List.mem_of_getElem? hx) with e | ⟨e1, e2⟩
  · rw [e]
    decide
  intro e; have e3 : ident_Lower.low (((ito n).data.toList[j]).toNat : Int) = (((ito n).data.toList[j]).toNat : Int) := by
    unfold ident_Lower.low; split <;> omega
  rw [e3, Int.toNat_natCast, UInt8.ofNat_toNat] at e; rw [e] at e2; exact absurd e2 (by decide)
theorem val_ito {n : Int} (h : -10000 ≤ n ∧ n ≤ 10000) : PureTw.Val (ito n) 1 = (n, 0) := by
  have e := (PureSt.txt_back (sc := 1) (Or.inl rfl) (n := n) ⟨by omega, by omega⟩).1; have e2 := ito_txt h; unfold PureTx.Txt at e2; rw [if_pos ⟨⟨by omega, by omega⟩, Or.inl rfl⟩] at e2; rw [← e2]; exact e
theorem int_num {n : Int} (h : l[i]? = some t) (h3 : t.f0 = 3) (hn : t.f3 = ito n) (hb : -10000 ≤ n ∧ n ≤ 10000) (hi : i ≤ 1000000) : Ev (fun k => value_Integer.f k l (i : Int)) (n, ((i + 1 : Nat) : Int), (0 : Int)) := by
  have hz := ito_size hb; simp only [value_Integer.f]; refine ev_bindc (word_f h) (ev_pos h3 ?_)
  show Ev (fun k => (strings_Contains.f t.f3 _).bind fun t225 => _) _
  rw [hn]; refine ev_bindc (no_byte (c := 46) (fun b hb2 => ?_)) (ev_neg (by decide) (ev_bindc (lower_f (ito n) (by omega)) (ev_bindc (no_byte (c := 101) (low_byte hb)) (ev_step ?_))))
  · rcases ito_byte hb b hb2 with e | ⟨e1, e2⟩
    · rw [e]
      decide
    rintro rfl
    exact absurd e1 (by decide)
  simp only [value_Integer.j0]; have hv : Ev (fun k => value_scaled.f k (ito n) 1) (n, (0 : Int)) := by
    simp only [value_scaled.f]; have := PureTw.nVal (ito n) (by omega) 1
    rw [val_ito hb] at this; exact ev_bind this (ev_pos rfl ev_some)
  refine ev_neg (by decide) (ev_bind hv (ev_pos rfl (ev_eq ?_)))
  rw [w64 (by omega) (by omega)]; rfl
/-! ### Keywords -/
theorem kw_loop (s : ByteArray) (xs : List ByteArray) (a1 : Int) (hs : s.size ≤ 1000000) (hx : ∀ x ∈ xs, x.size ≤ 1000000) (hl : xs.length ≤ 100) (hno : ∀ x ∈ xs, ((L s).toList == (L x).toList) = false) (x0 x1 : Int) (x3 : ByteArray) :
    ∀ d j : Nat, xs.length - j = d → j ≤ xs.length → Ev (fun k => value_Keyword.l0 k a1 xs (xs.length : Int) (j : Int) x0 x1 s x3) ((-1 : Int), a1) := by
  intro d; induction d with
  | zero =>
    intro j hd hj; refine ev_step ?_
    simp only [value_Keyword.l0]; exact ev_neg (by omega) ev_some
  | succ d ih =>
    intro j hd hj; have hlt : j < xs.length := by omega
    have hr : rdOf ByteArray.empty xs (j : Int) = xs[j] := by simp [rdOf, List.getD_eq_getElem?_getD, List.getElem?_eq_getElem hlt]
    refine ev_step ?_
    simp only [value_Keyword.l0, hr]; refine ev_pos (by omega) (ev_pos (by omega) (ev_pos (by omega) (ev_bindc (is_f s xs[j] hs (hx _ (List.getElem_mem hlt))) (ev_neg (by rw [hno _ (List.getElem_mem hlt)]; decide) ?_))))
    rw [w64 (by omega) (by omega)]; exact ih (j + 1) (by omega) (by omega)
theorem keys_size : ∀ x ∈ line_Read.keys, x.size ≤ 1000000 := by decide
theorem kw_no (h : l[i]? = some t) (h1 : t.f0 ≠ 1) : Ev (fun k => value_Keyword.f k l (i : Int) line_Read.keys) ((-1 : Int), (i : Int)) := by
  simp only [value_Keyword.f]; exact ev_bindc (word_f h) (ev_neg h1 ev_some)
theorem kw_ident {s : ByteArray} (h : l[i]? = some t) (h1 : t.f0 = 1) (h2 : t.f2 = s) (hs : s.size ≤ 1000000) (hno : ∀ x ∈ line_Read.keys, ((L s).toList == (L x).toList) = false) : Ev (fun k => value_Keyword.f k l (i : Int) line_Read.keys) ((-1 : Int), (i : Int)) := by
  subst h2; simp only [value_Keyword.f]; exact ev_bindc (word_f h) (ev_pos h1 (kw_loop t.f2 line_Read.keys (i : Int) hs keys_size (by decide) hno t.f0 t.f1 t.f3 5 0 rfl (by decide)))
theorem kw_auto (h : l[i]? = some t) (h1 : t.f0 = 1) (h2 : t.f2 = AUTO) (hi : i ≤ 1000000) : Ev (fun k => value_Keyword.f k l (i : Int) line_Read.keys) ((0 : Int), ((i + 1 : Nat) : Int)) := by
  simp only [value_Keyword.f]; refine ev_bindc (word_f h) (ev_pos h1 (ev_step ?_))
  simp only [value_Keyword.l0]; rw [h2]; refine ev_pos (by decide) (ev_pos (by decide) (ev_pos (by decide) (ev_bindc (is_f AUTO _ (by decide) (by decide)) (ev_pos ?_ (ev_eq ?_)))))
  · show ((L AUTO).toList == (L AUTO).toList) = true
    exact beq_self_eq_true _
  rw [w64 (by omega) (by omega)]; rfl
theorem custom_kws {s : ByteArray} (h : custom s = true) : ∀ x ∈ kws, ((L s).toList == (L x).toList) = false := fun x hx => by
  unfold custom at h; split at h
  · cases h
  rename_i hn
  cases e : ((L s).toList == (L x).toList) with
  | false => rfl
  | true => exact absurd (List.any_eq_true.2 ⟨x, hx, e⟩) hn
theorem keys_kws : ∀ x ∈ line_Read.keys, x ∈ kws := fun x hx => by
  simp only [line_Read.keys, List.mem_cons, List.not_mem_nil, or_false] at hx; rcases hx with rfl | rfl | rfl | rfl | rfl <;> simp [kws]
theorem span_kws : SPAN ∈ kws := by simp [kws, SPAN]
theorem span_keys : ∀ x ∈ line_Read.keys, ((L SPAN).toList == (L x).toList) = false := by
  simp only [ByteArray.toList_eq]; decide +kernel

/-! ### The loop over a line's words -/
theorem text_ident (h : l[i]? = some t) (h1 : t.f0 = 1) : line_Read.text l (i : Int) = t.f2 := by
  have := at_lt h
  unfold line_Read.text; rw [if_pos ⟨by omega, by omega⟩, rd_get h, if_pos h1]
theorem text_no (h : l[i]? = some t) (h1 : t.f0 ≠ 1) : line_Read.text l (i : Int) = ⟨#[]⟩ := by
  have := at_lt h
  unfold line_Read.text; rw [if_pos ⟨by omega, by omega⟩, rd_get h, if_neg h1]
theorem num_no (h : l[i]? = some t) (h3 : t.f0 ≠ 3) (nu : Int) : Ev (fun k => line_Read.isNum k l nu (i : Int)) false := by
  simp only [line_Read.isNum, line_Read.num]; exact ev_ite (fun _ => ev_bind (int_no h h3) (ev_eq rfl)) (fun _ => ev_some)
theorem num_yes {n : Int} (h : l[i]? = some t) (h3 : t.f0 = 3) (hn : t.f3 = ito n) (hb : -10000 ≤ n ∧ n ≤ 10000) (hi : i ≤ 1000000) {nu : Int} (hnu : nu < 0) : Ev (fun k => line_Read.isNum k l nu (i : Int)) true := by
  simp only [line_Read.isNum, line_Read.num]; exact ev_pos hnu (ev_bind (int_num h h3 hn hb hi) (ev_eq rfl))
variable {a1 nu sp : Int} {nm : ByteArray} {r : Int × Int × Int × ByteArray}
theorem st_num {n : Int} (h : l[i]? = some t) (h3 : t.f0 = 3) (hn : t.f3 = ito n) (hb : -10000 ≤ n ∧ n ≤ 10000) (hi : i ≤ 1000000) (hnu : nu < 0) (hr : Ev (fun k => line_Read.l0 k l a1 (i : Int) sp ((i + 1 : Nat) : Int) nm) r) : Ev (fun k => line_Read.l0 k l a1 nu sp (i : Int) nm) r := by
  refine ev_step ?_
  simp only [line_Read.l0]; rw [show wrap64 ((i : Int) + 1) = ((i + 1 : Nat) : Int) by rw [w64 (by omega) (by omega)]; rfl]; exact ev_bind (num_yes h h3 hn hb hi hnu) (ev_pos rfl hr)
theorem st_span (h : l[i]? = some t) (h1 : t.f0 = 1) (h2 : t.f2 = SPAN) (hi : i ≤ 1000000) (hsp : sp < 0) (hk : ¬ (i : Int) > a1) (hr : Ev (fun k => line_Read.l0 k l a1 nu (i : Int) ((i + 1 : Nat) : Int) nm) r) : Ev (fun k => line_Read.l0 k l a1 nu sp (i : Int) nm) r := by
  refine ev_step ?_
  simp only [line_Read.l0]; rw [show wrap64 ((i : Int) + 1) = ((i + 1 : Nat) : Int) by rw [w64 (by omega) (by omega)]; rfl, text_ident h h1, h2]; exact ev_bind (num_no h (by omega) nu) (ev_neg (by decide) (ev_bindc (is_f SPAN _ (by decide) (by decide)) (ev_pos (beq_self_eq_true _) (ev_pos hsp (ev_neg hk hr)))))
theorem st_name {s : ByteArray} (h : l[i]? = some t) (h1 : t.f0 = 1) (h2 : t.f2 = s) (hc : custom s = true) (hi : i ≤ 1000000) (hnm : nm.toList = []) (hr : Ev (fun k => line_Read.l0 k l a1 nu sp ((i + 1 : Nat) : Int) s) r) : Ev (fun k => line_Read.l0 k l a1 nu sp (i : Int) nm) r := by
  have hz := custom_size hc; refine ev_step ?_
  simp only [line_Read.l0, line_Read.isName]; rw [show wrap64 ((i : Int) + 1) = ((i + 1 : Nat) : Int) by rw [w64 (by omega) (by omega)]; rfl, text_ident h h1, h2]; refine ev_bind (num_no h (by omega) nu) (ev_neg (by decide) (ev_bindc (is_f s SPAN (by omega) (by decide)) (ev_neg ?_ ?_)))
  · rw [custom_kws hc SPAN span_kws]
    decide
  rw [if_pos hnm]; exact ev_bindc (custom_f s (by omega)) (ev_pos hc hr)
theorem st_end (h : l[i]? = some t) (h1 : t.f0 ≠ 1) (h3 : t.f0 ≠ 3) : Ev (fun k => line_Read.l0 k l a1 nu sp (i : Int) nm) (nu, sp, (i : Int), nm) := by
  refine ev_step ?_
  simp only [line_Read.l0, line_Read.isName]; rw [text_no h h1]; refine ev_bind (num_no h h3 nu) (ev_neg (by decide) (ev_bindc (is_f ⟨#[]⟩ SPAN (by decide) (by decide)) (ev_neg ?_ ?_)))
  · simp only [ByteArray.toList_eq]
    decide +kernel
  have hc : custom (⟨#[]⟩ : ByteArray) = false := custom_nil (by rw [ByteArray.toList_eq]); refine ev_bindc (a := false) ?_ (ev_neg (by decide) ev_some)
  split
  · rw [custom_f ⟨#[]⟩ (by decide), hc]
  rfl
theorem fin_plain {n k1 : Int} (hk : k1 ≠ a1) (hnu : nu < 0) (hx : sp < 0 ∨ nm.toList ≠ []) : Ev (fun k => line_Read.fin k l a1 nu sp k1 nm) (if sp ≥ 0 then 4 else 3, if sp ≥ 0 then 1 else 0, nm, k1, 0) := by
  simp only [line_Read.fin]; refine ev_neg hk (ev_neg ?_ (ev_pos hnu ev_some))
  rintro ⟨h1, _, h3⟩
  rcases hx with hx | hx
  · omega
  exact hx h3
theorem fin_num {n k1 : Int} {j : Nat} {u : S67} (hk : k1 ≠ a1) (h : l[j]? = some u) (h3 : u.f0 = 3) (hn : u.f3 = ito n) (hb : -10000 ≤ n ∧ n ≤ 10000) (hj : j ≤ 1000000) (h0 : n ≠ 0) (hs : sp ≥ 0 → 0 < n) :
    Ev (fun k => line_Read.fin k l a1 (j : Int) sp k1 nm) (if sp < 0 then 2 else 4, n, nm, k1, 0) := by
  simp only [line_Read.fin]; refine ev_neg hk (ev_neg (fun z => by omega) (ev_neg (by omega) (ev_bind (int_num h h3 hn hb hj) (ev_neg ?_ (ev_neg ?_ ev_some)))))
  · rintro (h | h | h)
    · exact h rfl
    · have : n > 10000 := h
      omega
    have : n < -10000 := h
    omega
  rintro (h | ⟨h, h2⟩)
  · exact h0 h
  have : n < 0 := h
  have := hs h2
  omega
end
/-! ### A line at a place -/
/-- What a word is to a line. -/
def IsI (l : List S67) (i : Nat) (s : ByteArray) : Prop := ∃ t, l[i]? = some t ∧ t.f0 = 1 ∧ t.f2 = s
def IsN (l : List S67) (i : Nat) (n : Int) : Prop := ∃ t, l[i]? = some t ∧ t.f0 = 3 ∧ t.f3 = ito n
def IsE (l : List S67) (i : Nat) : Prop := ∃ t, l[i]? = some t ∧ t.f0 ≠ 1 ∧ t.f0 ≠ 3
section
variable {l : List S67} {i : Nat} {n : Int} {s : ByteArray}
theorem read_auto (hi : i ≤ 100000) (h : IsI l i AUTO) : Ev (fun k => line_Read.f k l (i : Int)) ((1 : Int), (0 : Int), (⟨#[]⟩ : ByteArray), ((i + 1 : Nat) : Int), (0 : Int)) := by
  obtain ⟨t, h0, h1, h2⟩ := h; simp only [line_Read.f]; exact ev_bind (kw_auto h0 h1 h2 (by omega)) (ev_pos rfl (ev_bindc (rfl : line_auto.f = some (1, 0, (⟨#[]⟩ : ByteArray))) ev_some))
theorem read_name (hi : i ≤ 100000) (hc : custom s = true) (h : IsI l i s) (he : IsE l (i + 1)) : Ev (fun k => line_Read.f k l (i : Int)) ((3 : Int), (0 : Int), s, ((i + 1 : Nat) : Int), (0 : Int)) := by
  obtain ⟨t, h0, h1, h2⟩ := h; obtain ⟨u, g0, g1, g2⟩ := he; have hz := custom_size hc; simp only [line_Read.f]; refine ev_bind (kw_ident h0 h1 h2 (by omega) (fun x hx => custom_kws hc x (keys_kws x hx))) (ev_neg (by dsimp only; decide) (ev_neg (by dsimp only; decide) (ev_bind (st_name h0 h1 h2 hc (by omega) (by rw [ByteArray.toList_eq]) (st_end g0 g1 g2)) ?_)))
  exact fin_plain (n := 0) (by show ((i + 1 : Nat) : Int) ≠ (i : Int); omega) (by dsimp only; decide) (Or.inl (by dsimp only; decide))
theorem read_num (hi : i ≤ 100000) (hb : -10000 ≤ n ∧ n ≤ 10000) (h0 : n ≠ 0) (h : IsN l i n) (he : IsE l (i + 1)) : Ev (fun k => line_Read.f k l (i : Int)) ((2 : Int), n, (⟨#[]⟩ : ByteArray), ((i + 1 : Nat) : Int), (0 : Int)) := by
  obtain ⟨t, t0, t1, t2⟩ := h; obtain ⟨u, g0, g1, g2⟩ := he; simp only [line_Read.f]; refine ev_bind (kw_no t0 (by omega)) (ev_neg (by dsimp only; decide) (ev_neg (by dsimp only; decide) (ev_bind (st_num t0 t1 t2 hb (by omega) (by decide) (st_end g0 g1 g2)) ?_)))
  exact fin_num (by show ((i + 1 : Nat) : Int) ≠ (i : Int); omega) t0 t1 t2 hb (by omega) h0 (fun h => absurd h (by dsimp only; decide))
theorem read_num_name (hi : i ≤ 100000) (hb : -10000 ≤ n ∧ n ≤ 10000) (h0 : n ≠ 0) (hc : custom s = true) (h : IsN l i n) (hs : IsI l (i + 1) s) (he : IsE l (i + 2)) : Ev (fun k => line_Read.f k l (i : Int)) ((2 : Int), n, s, ((i + 2 : Nat) : Int), (0 : Int)) := by
  obtain ⟨t, t0, t1, t2⟩ := h; obtain ⟨v, v0, v1, v2⟩ := hs; obtain ⟨u, g0, g1, g2⟩ := he; simp only [line_Read.f]; refine ev_bind (kw_no t0 (by omega)) (ev_neg (by dsimp only; decide) (ev_neg (by dsimp only; decide) (ev_bind (st_num t0 t1 t2 hb (by omega) (by decide) (st_name v0 v1 v2 hc (by omega) (by rw [ByteArray.toList_eq]) (st_end g0 g1 g2))) ?_)))
  exact fin_num (by show ((i + 2 : Nat) : Int) ≠ (i : Int); omega) t0 t1 t2 hb (by omega) h0 (fun h => absurd h (by dsimp only; decide))
theorem read_span_num (hi : i ≤ 100000) (hb : 1 ≤ n ∧ n ≤ 10000) (h : IsI l i SPAN) (hn : IsN l (i + 1) n) (he : IsE l (i + 2)) : Ev (fun k => line_Read.f k l (i : Int)) ((4 : Int), n, (⟨#[]⟩ : ByteArray), ((i + 2 : Nat) : Int), (0 : Int)) := by
  obtain ⟨v, v0, v1, v2⟩ := h; obtain ⟨t, t0, t1, t2⟩ := hn; obtain ⟨u, g0, g1, g2⟩ := he; simp only [line_Read.f]; refine ev_bind (kw_ident v0 v1 v2 (by decide) span_keys) (ev_neg (by dsimp only; decide) (ev_neg (by dsimp only; decide) (ev_bind (st_span v0 v1 v2 (by omega) (by decide) (by omega) (st_num t0 t1 t2 (by omega) (by omega) (by decide) (st_end g0 g1 g2))) ?_)))
  refine ev_cast (fin_num (by show ((i + 2 : Nat) : Int) ≠ (i : Int); omega) t0 t1 t2 (by omega) (by omega) (by omega) (fun h => by omega)) ?_
  rw [if_neg (by dsimp only; omega)]
theorem read_span_name (hi : i ≤ 100000) (hc : custom s = true) (h : IsI l i SPAN) (hs : IsI l (i + 1) s) (he : IsE l (i + 2)) : Ev (fun k => line_Read.f k l (i : Int)) ((4 : Int), (1 : Int), s, ((i + 2 : Nat) : Int), (0 : Int)) := by
  obtain ⟨v, v0, v1, v2⟩ := h; obtain ⟨t, t0, t1, t2⟩ := hs; obtain ⟨u, g0, g1, g2⟩ := he; simp only [line_Read.f]; refine ev_bind (kw_ident v0 v1 v2 (by decide) span_keys) (ev_neg (by dsimp only; decide) (ev_neg (by dsimp only; decide) (ev_bind (st_span v0 v1 v2 (by omega) (by decide) (by omega) (st_name t0 t1 t2 hc (by omega) (by rw [ByteArray.toList_eq]) (st_end g0 g1 g2))) ?_)))
  refine ev_cast (fin_plain (n := 0) (by show ((i + 2 : Nat) : Int) ≠ (i : Int); omega) (by dsimp only; decide) (Or.inr (fun e => ?_))) ?_
  · rw [custom_nil e] at hc
    cases hc
  rw [if_pos (by dsimp only; omega), if_pos (by dsimp only; omega)]
theorem read_span_both (hi : i ≤ 100000) (hb : 1 ≤ n ∧ n ≤ 10000) (hc : custom s = true) (h : IsI l i SPAN) (hn : IsN l (i + 1) n) (hs : IsI l (i + 2) s) (he : IsE l (i + 3)) : Ev (fun k => line_Read.f k l (i : Int)) ((4 : Int), n, s, ((i + 3 : Nat) : Int), (0 : Int)) := by
  obtain ⟨v, v0, v1, v2⟩ := h; obtain ⟨t, t0, t1, t2⟩ := hn; obtain ⟨x, x0, x1, x2⟩ := hs; obtain ⟨u, g0, g1, g2⟩ := he; simp only [line_Read.f]; refine ev_bind (kw_ident v0 v1 v2 (by decide) span_keys) (ev_neg (by dsimp only; decide) (ev_neg (by dsimp only; decide) (ev_bind (st_span v0 v1 v2 (by omega) (by decide) (by omega) (st_num t0 t1 t2 (by omega) (by omega) (by decide) (st_name x0 x1 x2 hc (by omega) (by rw [ByteArray.toList_eq]) (st_end g0 g1 g2)))) ?_)))
  refine ev_cast (fin_num (by show ((i + 3 : Nat) : Int) ≠ (i : Int); omega) t0 t1 t2 (by omega) (by omega) (by omega) (fun h => by omega)) ?_
  rw [if_neg (by dsimp only; omega)]
end
end Go.Proofs.YtofdhdafabmhmaaDoor.PureLr
end
section
/- A line comes back from its words, and two of them (layer 7). Conditions: as each theorem says. -/
namespace Go.Proofs.YtofdhdafabmhmaaDoor.PureLs
open Go.RowKit Go.Proofs.YtofdhdafabmhmaaDoorW.PrintWords Go.Proofs.YtofdhdafabmhmaaDoorW.PrintMore Go.Proofs.YtofdhdafabmhmaaDoor.Evs Go.Proofs.YtofdhdafabmhmaaDoor.Opn Go.Proofs.YtofdhdafabmhmaaDoor.PLf4 Go.Proofs.YtofdhdafabmhmaaDoor.Giv Go.Proofs.YtofdhdafabmhmaaDoor.PureLi Go.Proofs.YtofdhdafabmhmaaDoor.PureLk Go.Proofs.YtofdhdafabmhmaaDoor.PureLr
open Go.Proofs.YtofdhdafabmhmaaDoor.PureIdT (custom)

def Has (l : List S67) (i : Nat) (ws : List W) : Prop := ∀ (j : Nat) (w : W), ws[j]? = some w → ∃ t, l[i + j]? = some t ∧ t.f0 = w.kd ∧ t.f2 = w.tx ∧ t.f3 = w.nm
structure Line (v0 v1 : Int) (nm : ByteArray) (X : List UInt8) (ws : List W) : Prop where
  ok : ∀ w ∈ ws, w.ok
  ne : ws ≠ []
  jn : join ws = X
  len : ws.length ≤ 3
  rd : ∀ (l : List S67) (i : Nat), i ≤ 100000 → Has l i ws → IsE l (i + ws.length) → Ev (fun k => line_Read.f k l (i : Int)) (v0, v1, nm, ((i + ws.length : Nat) : Int), (0 : Int))
def wSpan : W := ⟨SPAN.data.toList, 1, SPAN, ⟨#[]⟩⟩
def wAuto : W := ⟨AUTO.data.toList, 1, AUTO, ⟨#[]⟩⟩
def wNum (n : Int) : W := ⟨(ito n).data.toList, 3, ⟨#[]⟩, ito n⟩
def wName (s : ByteArray) (l : List UInt8) : W := ⟨l, 1, s, ⟨#[]⟩⟩
theorem span_ok : wSpan.ok := name_wrd (s := SPAN) (by decide) (by decide) (by decide) (by decide +kernel)
theorem auto_ok : wAuto.ok := name_wrd (s := AUTO) (by decide) (by decide) (by decide) (by decide +kernel)
theorem num_ok {n : Int} (h : -10000 ≤ n ∧ n ≤ 10000) : (wNum n).ok := num_wrd h
theorem named {nm w : ByteArray} (hc : custom nm = true) (hw : ident_Write.f nm = some w) : ∃ l, w = ⟨l.toArray⟩ ∧ (wName nm l).ok ∧ l ≠ [] := by
  have hz := custom_size hc; have hne : nm.toList ≠ [] := fun e => by
    rw [custom_nil e] at hc; cases hc
  rcases PureLx.name_cases nm with ⟨hn, h1, h64, h0⟩ | hn
  · unfold ident_Write.f at hw
    rw [hn, Option.bind_some, if_pos rfl, if_pos (by omega)] at hw; obtain ⟨l, hl, hw⟩ := Option.bind_eq_some_iff.1 hw; have ok := name_wrd h1 h64 h0 hl; exact ⟨l, (si_ hw).symm, ok, ok.ne⟩
  exfalso
  unfold custom at hc; split at hc
  · cases hc
  rw [PureId.name_f, hc] at hn; cases hn
section
variable {l : List S67} {i : Nat} {ws : List W} {n : Int} {s : ByteArray} {X : List UInt8}
theorem Has.isI {w : W} {j : Nat} (h : Has l i ws) (hj : ws[j]? = some w) (hk : w.kd = 1) (hs : w.tx = s) : IsI l (i + j) s := by
  obtain ⟨t, h0, h1, h2, _⟩ := h j w hj; exact ⟨t, h0, by rw [h1, hk], by rw [h2, hs]⟩
theorem Has.isN {w : W} {j : Nat} (h : Has l i ws) (hj : ws[j]? = some w) (hk : w.kd = 3) (hs : w.nm = ito n) : IsN l (i + j) n := by
  obtain ⟨t, h0, h1, _, h3⟩ := h j w hj; exact ⟨t, h0, by rw [h1, hk], by rw [h3, hs]⟩
end
theorem app_list (a b : ByteArray) : (a ++ b).data.toList = a.data.toList ++ b.data.toList := by simp
theorem mk_list (l : List UInt8) : (⟨l.toArray⟩ : ByteArray).data.toList = l := by simp
/-- The words of a line's text. -/
theorem line_words {v0 v1 : Int} {nm w : ByteArray} (hg : good v0 v1 nm = true) (hw : ident_Write.f nm = some w) : ∃ ws, Line v0 v1 nm (text v0 v1 w).data.toList ws := by
  have G := good_of hg; have wnil : nm.toList = [] → w = ⟨#[]⟩ := fun e => by
    have hn : PureId.isName nm = false := by
      unfold PureId.isName; rw [if_pos e]
    unfold ident_Write.f at hw; rw [PureId.name_f, hn, Option.bind_some, if_neg (by decide)] at hw; exact (si_ hw).symm
  have enil : (⟨#[]⟩ : ByteArray).toList = ([] : List UInt8) := by rw [ByteArray.toList_eq]
  have wne : ∀ {l : List UInt8}, w = ⟨l.toArray⟩ → l ≠ [] → w.toList ≠ [] := fun {l} e h => by
    rw [e, ByteArray.toList_eq, mk_list]; exact h
  rcases G.k with h | h | h | h
  · obtain ⟨h1, h2⟩ := G.a h
    obtain rfl := empty_of h2; subst h h1; refine ⟨[wAuto], fun w hw => by rw [List.mem_singleton.1 hw]; exact auto_ok, by simp, rfl, by simp, fun l i hi hh he => ?_⟩
    exact read_auto hi (hh.isI (j := 0) rfl rfl rfl)
  · have h0 := G.b h
    subst h; have e : text 2 v1 w = numd v1 w := rfl; rw [e]; rcases G.c with hc | hc
    · obtain rfl := empty_of hc
      have e2 := wnil enil; subst e2; refine ⟨[wNum v1], fun w hw => by rw [List.mem_singleton.1 hw]; exact num_ok G.n, by simp, ?_, by simp, fun l i hi hh he => read_num hi G.n h0 (hh.isN (j := 0) rfl rfl rfl) he⟩
      unfold numd; rw [if_pos enil]; rfl
    obtain ⟨L, e1, ok, hl⟩ := named hc hw; refine ⟨[wNum v1, wName nm L], fun w hw => ?_, by simp, ?_, by simp, fun l i hi hh he => read_num_name hi G.n h0 hc (hh.isN (j := 0) rfl rfl rfl) (hh.isI (j := 1) rfl rfl rfl) he⟩
    · rcases List.mem_cons.1 hw with rfl | hw
      · exact num_ok G.n
      rw [List.mem_singleton.1 hw]; exact ok
    unfold numd; rw [if_neg (wne e1 hl), app_list, app_list, e1, mk_list]; rfl
  · obtain ⟨h1, hc⟩ := G.d h
    subst h h1; obtain ⟨L, e1, ok, hl⟩ := named hc hw; refine ⟨[wName nm L], fun w hw => by rw [List.mem_singleton.1 hw]; exact ok, by simp, ?_, by simp, fun l i hi hh he => read_name hi hc (hh.isI (j := 0) rfl rfl rfl) he⟩
    show L = w.data.toList
    rw [e1, mk_list]
  have h1 := G.s h; have hn := G.n; subst h; have e : text 4 v1 w = if w.toList = ([] : List UInt8) then span (ito v1) else if v1 = 1 then span w else span (numd v1 w) := rfl
  rw [e]; rcases G.c with hc | hc
  · obtain rfl := empty_of hc
    have e2 := wnil enil; subst e2; rw [if_pos enil]; refine ⟨[wSpan, wNum v1], fun w hw => ?_, by simp, ?_, by simp, fun l i hi hh he => read_span_num hi ⟨h1, hn.2⟩ (hh.isI (j := 0) rfl rfl rfl) (hh.isN (j := 1) rfl rfl rfl) he⟩
    · rcases List.mem_cons.1 hw with rfl | hw
      · exact span_ok
      rw [List.mem_singleton.1 hw]; exact num_ok hn
    unfold span; rw [app_list]; rfl
  obtain ⟨L, e1, ok, hl⟩ := named hc hw; rw [if_neg (wne e1 hl)]; by_cases h2 : v1 = 1
  · rw [if_pos h2]
    subst h2; refine ⟨[wSpan, wName nm L], fun w hw => ?_, by simp, ?_, by simp, fun l i hi hh he => read_span_name hi hc (hh.isI (j := 0) rfl rfl rfl) (hh.isI (j := 1) rfl rfl rfl) he⟩
    · rcases List.mem_cons.1 hw with rfl | hw
      · exact span_ok
      rw [List.mem_singleton.1 hw]; exact ok
    unfold span; rw [app_list, e1, mk_list]; rfl
  rw [if_neg h2]; refine ⟨[wSpan, wNum v1, wName nm L], fun w hw => ?_, by simp, ?_, by simp, fun l i hi hh he => read_span_both hi ⟨h1, hn.2⟩ hc (hh.isI (j := 0) rfl rfl rfl) (hh.isN (j := 1) rfl rfl rfl) (hh.isI (j := 2) rfl rfl rfl) he⟩
  · rcases List.mem_cons.1 hw with rfl | hw
    · exact span_ok
    rcases List.mem_cons.1 hw with rfl | hw
    · exact num_ok hn
    rw [List.mem_singleton.1 hw]; exact ok
  unfold span numd; rw [if_neg (wne e1 hl), app_list, app_list, app_list, e1, mk_list]; rfl
/-! ### The lexer's words -/
theorem toks_get : ∀ (ws : List W) (p j : Nat) (w : W), ws[j]? = some w → ∃ t, (toks p ws)[j]? = some t ∧ t.f0 = w.kd ∧ t.f2 = w.tx ∧ t.f3 = w.nm
  | [], _, _, _, h => by cases h
  | x :: ws, p, 0, w, h => by
    obtain rfl := si_ h; exact ⟨_, rfl, rfl, rfl, rfl⟩
  | x :: ws, p, j + 1, w, h => by
    obtain ⟨t, h0, h1⟩ := toks_get ws (p + x.L.length + 1) j w h; exact ⟨t, h0, h1⟩
/-- A text's words, and its end. -/
def all (ws : List W) (z : Nat) : List S67 := toks 0 ws ++ [⟨8, (z : Int), ⟨#[]⟩, ⟨#[]⟩⟩]
theorem all_length (ws : List W) (z : Nat) : (all ws z).length = ws.length + 1 := by
  unfold all; rw [List.length_append, toks_length]; rfl
theorem all_end (ws : List W) (z : Nat) : (all ws z)[ws.length]? = some ⟨8, (z : Int), ⟨#[]⟩, ⟨#[]⟩⟩ := by
  unfold all; rw [List.getElem?_append_right (by rw [toks_length]; exact Nat.le_refl _), toks_length, Nat.sub_self]; rfl
theorem all_has (ws a b : List W) (z : Nat) (h : ws = a ++ b) : Has (all ws z) a.length b := fun j w hj => by
  have hw : ws[a.length + j]? = some w := by rw [h, List.getElem?_append_right (by omega), Nat.add_sub_cancel_left, hj]
  obtain ⟨t, h0, h1⟩ := toks_get ws 0 (a.length + j) w hw; refine ⟨t, ?_, h1⟩
  unfold all; rw [List.getElem?_append_left (by exact (List.getElem?_eq_some_iff.1 h0).1)]; exact h0
theorem Has.left {l : List S67} {i : Nat} {a b : List W} (h : Has l i (a ++ b)) : Has l i a := fun j w hj => h j w (by rw [List.getElem?_append_left (List.getElem?_eq_some_iff.1 hj).1]; exact hj)
theorem join_app : ∀ (a b : List W), a ≠ [] → b ≠ [] → join (a ++ b) = join a ++ 32 :: join b
  | [], _, h, _ => absurd rfl h
  | [x], b, _, hb => by rw [List.singleton_append, join_cons x b hb]; rfl
  | x :: y :: a, b, _, hb => by
    rw [List.cons_append, join_cons x ((y :: a) ++ b) (by simp), join_app (y :: a) b (by simp) hb, join_cons x (y :: a) (by simp), List.append_assoc]; rfl
theorem words_f {T : ByteArray} (hT : T.size ≤ 100000) (ws : List W) (h0 : ws ≠ []) (hok : ∀ w ∈ ws, w.ok) (hj : T.data.toList = join ws) (hn : ws.length ≤ 1000) : Ev (fun k => parterrelaw07_words.f k T) (all ws T.size) := by
  simp only [parterrelaw07_words.f]; exact ev_pos (by omega) (ev_bind (words_ev hT ws h0 hok hj hn) (ev_eq rfl))
def wSlash : W := ⟨[47], 7, ⟨#[47]⟩, ⟨#[]⟩⟩
theorem sign_at {l : List S67} {i : Nat} {t : S67} (h : l[i]? = some t) {b : Bool} (hb : b = (decide (t.f0 = 7) && (t.f2.toList == (⟨#[47]⟩ : ByteArray).toList))) : value_Sign.f l (i : Int) ⟨#[47]⟩ = some b := by
  unfold value_Sign.f; rw [word_f h, Option.bind_some]; subst hb; by_cases e : t.f0 = 7
  · rw [if_pos e, dt_ e, Bool.true_and]
  rw [if_neg e, df_ e, Bool.false_and]
end Go.Proofs.YtofdhdafabmhmaaDoor.PureLs
end
section
/- LineFours: what its program runs through, by plain words. Conditions: none beyond the arguments' own kinds. -/
namespace Go.Proofs.YtofdhdafabmhmaaDoor.Pure
open Go.RowKit Go.Proofs.YtofdhdafabmhmaaDoorW.PrintWords Go.Proofs.YtofdhdafabmhmaaDoorW.PrintMore Go.Proofs.YtofdhdafabmhmaaDoor.Evs Go.Proofs.YtofdhdafabmhmaaDoor.Opn Go.Proofs.YtofdhdafabmhmaaDoor.PLf4 Go.Proofs.YtofdhdafabmhmaaDoor.Giv Go.Proofs.YtofdhdafabmhmaaDoor.PureLi Go.Proofs.YtofdhdafabmhmaaDoor.PureLk Go.Proofs.YtofdhdafabmhmaaDoor.PureLr Go.Proofs.YtofdhdafabmhmaaDoor.PureLs
open Go.Proofs.YtofdhdafabmhmaaDoor.PureIdT (L kws kws_low custom)
open Go.Proofs.YtofdhdafabmhmaaDoor.Giv.parterrelaw07_LineFours (Run P3 oth res flat sep pj)
theorem line_lives : Ev (fun k => parterrelaw07_lives.f k) true := Ev.of (fun k => parterrelaw07_lives.mono k) (k := 100) (by decide +kernel)
theorem custom_big (s : ByteArray) (hs : s.size ≤ 140737488351232) : ident_Custom.f s = some (custom s) := by
  have e : kws.any (fun x => (L s).toList == (L x).toList) = (kws.map (fun x => (L x).data.toList)).any (fun x => (L s).toList == x) := by
    rw [List.any_map]; congr 1
    funext x
    simp only [Function.comp, ByteArray.toList_eq]
  have hl : ident_Lower.f s = some (L s) := if_pos hs; unfold ident_Custom.f custom; rw [hl, e, kws_low, PureId.name_f]; simp only [Option.bind_some, List.any_cons, List.any_nil]; generalize (L s).toList = x
  repeat' first
    | rfl
    | (split <;> rename_i h1 <;> first | (subst h1; rfl) | skip)
  simp_all
theorem lgood_big (v0 v1 : Int) (nm : ByteArray) (hs : nm.size ≤ 140737488351232) : Ev (fun k => line_Good.f k v0 v1 nm) (good v0 v1 nm) := by
  simp only [line_Good.f]; exact ev_ite (fun h => good_j0 _ _ _ _ (by rw [if_pos h])) (fun h => ev_bindc (custom_big nm hs) (good_j0 _ _ _ _ (by rw [if_neg h])))
theorem write_any (s : ByteArray) (hs : s.size ≤ 64) : ∃ w, ident_Write.f s = some w := by
  rcases PureLx.name_cases s with ⟨hn, h1, h64, h0⟩ | hn
  · obtain ⟨l, hl⟩ := PureLx.write_cat s (by omega) s.size (Nat.le_refl _)
    exact ⟨⟨l.toArray⟩, by unfold ident_Write.f; rw [hn, Option.bind_some, if_pos rfl, if_pos (by omega), hl]; rfl⟩
  exact ⟨⟨#[]⟩, by unfold ident_Write.f; rw [hn]; rfl⟩
abbrev Lne := S41
abbrev Tok := S67
/-- A line, and its words. -/
structure Ld where
  v0 : Int
  v1 : Int
  nm : ByteArray
  ws : List W
def Ld.ok (d : Ld) : Prop := ∃ X, Line d.v0 d.v1 d.nm X d.ws
def cat : List Ld → List W
  | [] => []
  | [d] => d.ws
  | d :: e :: r => d.ws ++ wSlash :: cat (e :: r)
theorem cat_snoc (d : Ld) : ∀ (ls : List Ld), ls ≠ [] → cat (ls ++ [d]) = cat ls ++ wSlash :: d.ws
  | [], h => absurd rfl h
  | [a], _ => rfl
  | a :: b :: r, _ => by
    have := cat_snoc d (b :: r) (by simp)
    show a.ws ++ wSlash :: cat (b :: (r ++ [d])) = (a.ws ++ wSlash :: cat (b :: r)) ++ wSlash :: d.ws
    rw [show b :: (r ++ [d]) = (b :: r) ++ [d] from rfl, this, List.append_assoc]; rfl
theorem cat_ne : ∀ (ls : List Ld), ls ≠ [] → (∀ d ∈ ls, d.ok) → cat ls ≠ []
  | [], h, _ => absurd rfl h
  | [a], _, h => by
    obtain ⟨X, hx⟩ := h a (by simp); exact hx.ne
  | a :: b :: r, _, _ => by
    show a.ws ++ wSlash :: cat (b :: r) ≠ []
    simp
theorem cat_ok : ∀ (ls : List Ld), (∀ d ∈ ls, d.ok) → ∀ w ∈ cat ls, w.ok
  | [], _, w, hw => by cases hw
  | [a], h, w, hw => by
    obtain ⟨X, hx⟩ := h a (by simp); exact hx.ok w hw
  | a :: b :: r, h, w, hw => by
    rcases List.mem_append.1 hw with h1 | h1
    · obtain ⟨X, hx⟩ := h a (by simp)
      exact hx.ok w h1
    rcases List.mem_cons.1 h1 with h2 | h2
    · subst h2
      exact sign_wrd
    exact cat_ok (b :: r) (fun d hd => h d (List.mem_cons_of_mem _ hd)) w h2
theorem cat_len : ∀ (ls : List Ld), (∀ d ∈ ls, d.ok) → (cat ls).length ≤ 4 * ls.length
  | [], _ => Nat.zero_le _
  | [a], h => by
    obtain ⟨X, hx⟩ := h a (by simp); have := hx.len
    show a.ws.length ≤ _
    simp
    omega
  | a :: b :: r, h => by
    obtain ⟨X, hx⟩ := h a (by simp); have h1 := hx.len; have h2 := cat_len (b :: r) (fun d hd => h d (List.mem_cons_of_mem _ hd)); show (a.ws ++ wSlash :: cat (b :: r)).length ≤ _
    rw [List.length_append, List.length_cons]; simp only [List.length_cons] at h2 ⊢; omega
def vals (ls : List Ld) : List Lne := ls.map fun d => ⟨d.v0, d.v1, d.nm⟩
theorem lines_run {l : List Tok} {most : Int} (hm : most ≤ 100) : ∀ (rest : List Ld) (out : List Lne) (i : Nat), rest ≠ [] → (∀ d ∈ rest, d.ok) → i + (cat rest).length ≤ 10000 → ((out.length + rest.length : Nat) : Int) ≤ most → Has l i (cat rest) →
    (∃ t, l[i + (cat rest).length]? = some t ∧ t.f0 = 8) → Ev (fun k => line_lines.l0 k l most out (i : Int)) (out ++ vals rest, ((i + (cat rest).length : Nat) : Int), (0 : Int))
  | [], _, _, h, _, _, _, _, _ => absurd rfl h
  | [d], out, i, _, hok, hi, hl, hh, ⟨t, ht, h8⟩ => by
    obtain ⟨X, hx⟩ := hok d (by simp); have hi' : i + d.ws.length ≤ 10000 := hi; have ht' : l[i + d.ws.length]? = some t := ht; have hr := hx.rd l i (by omega) hh ⟨t, ht', by omega, by omega⟩; have hl' : ((out.length + 1 : Nat) : Int) ≤ most := hl; refine ev_step ?_
    simp only [line_lines.l0]; refine ev_bind hr (ev_pos rfl (ev_pos (by omega) (ev_let (ev_ite (fun _ => ev_eq rfl) (fun _ => ev_bindc (sign_at ht' (b := false) ?_) (ev_neg (by decide) (ev_eq rfl)))))))
    rw [df_ (by omega), Bool.false_and]
  | d :: e :: r, out, i, _, hok, hi, hl, hh, ⟨t, ht, h8⟩ => by
    obtain ⟨X, hx⟩ := hok d (by simp); have hc : cat (d :: e :: r) = d.ws ++ wSlash :: cat (e :: r) := rfl; have hz : (cat (d :: e :: r)).length = d.ws.length + 1 + (cat (e :: r)).length := by
      rw [hc, List.length_append, List.length_cons]; omega
    rw [hz] at hi ht; rw [hc] at hh; obtain ⟨t7, q0, q1, q2, _⟩ := hh d.ws.length wSlash (by rw [List.getElem?_append_right (Nat.le_refl _), Nat.sub_self]; rfl); have hr := hx.rd l i (by omega) (Has.left hh) ⟨t7, q0, by rw [q1]; decide, by rw [q1]; decide⟩; have hn : Has l (i + d.ws.length + 1) (cat (e :: r)) := fun j w hj => by
      have := hh (d.ws.length + 1 + j) w (by rw [List.getElem?_append_right (by omega), show d.ws.length + 1 + j - d.ws.length = j + 1 by omega]; exact hj)
      rw [show i + d.ws.length + 1 + j = i + (d.ws.length + 1 + j) by omega]; exact this
    have hl' : ((out.length + (r.length + 1 + 1) : Nat) : Int) ≤ most := hl; have hrec := lines_run hm (e :: r) (out ++ [⟨d.v0, d.v1, d.nm⟩]) (i + d.ws.length + 1) (by simp) (fun x hx => hok x (List.mem_cons_of_mem _ hx)) (by omega) (by simp only [List.length_append, List.length_cons, List.length_nil]; omega) hn ⟨t, by rw [show i + d.ws.length + 1 + (cat (e :: r)).length = i + (d.ws.length + 1 + (cat (e :: r)).length) by omega]; exact ht, h8⟩; rw [hz]; refine ev_step ?_
    simp only [line_lines.l0]; refine ev_bind hr (ev_pos rfl (ev_pos (by omega) (ev_let (ev_neg (by rw [List.length_append, List.length_singleton]; omega) (ev_bindc (sign_at q0 (b := true) ?_) (ev_pos rfl ?_))))))
    · rw [dt_ (show t7.f0 = 7 from q1), q2, Bool.true_and, show wSlash.tx = (⟨#[47]⟩ : ByteArray) from rfl]
      exact (beq_self_eq_true _).symm
    have hw : wrap64 (((i + d.ws.length : Nat) : Int) + 1) = ((i + d.ws.length + 1 : Nat) : Int) := by
      rw [w64 (by omega) (by omega)]; rfl
    show Ev (fun k => line_lines.l0 k l most (out ++ [⟨d.v0, d.v1, d.nm⟩]) (wrap64 (((i + d.ws.length : Nat) : Int) + 1))) _
    rw [hw]; refine ev_cast hrec ?_
    rw [show i + d.ws.length + 1 + (cat (e :: r)).length = i + (d.ws.length + 1 + (cat (e :: r)).length) by omega, List.append_assoc]; rfl
/-! ### Four of some -/
def o (v : Lne) : Lne := ⟨(other v.f0 v.f1 v.f2).1, (other v.f0 v.f1 v.f2).2.1, (other v.f0 v.f1 v.f2).2.2⟩
def four : List Lne → List Lne
  | [v] => [v, o v, o v, o (o v)]
  | [v, u] => [v, u, o v, o u]
  | [v, u, x] => [v, u, x, o u]
  | y => y
theorem nfour_step {y r : List Lne} (v : Lne) (h4 : (y.length : Int) < 4) (hv : rd_T41 y (if y.length = 3 then 1 else 0) = v) (h : Ev (fun k => line_Four.l0 k (y ++ [o v])) r) : Ev (fun k => line_Four.l0 k y) r := by
  refine ev_step ?_
  simp only [line_Four.l0]; exact ev_pos h4 (ev_bindc (by rw [hv]; exact lother v.f0 v.f1 v.f2) h)
theorem nfour_end {a b c d : Lne} : Ev (fun k => line_Four.l0 k [a, b, c, d]) [a, b, c, d] := by
  refine ev_step ?_
  simp only [line_Four.l0]; exact ev_neg (by simp) ev_some
theorem nfour (y : List Lne) (h1 : 1 ≤ y.length) (h4 : y.length ≤ 4) : Ev (fun k => line_Four.l0 k y) (four y) ∧ (four y).length = 4 := by
  match y, h1, h4 with
  | [v], _, _ => exact ⟨nfour_step v (by simp) rfl (nfour_step v (by simp) rfl (nfour_step (o v) (by simp) rfl nfour_end)), rfl⟩
  | [v, u], _, _ => exact ⟨nfour_step v (by simp) rfl (nfour_step u (by simp) rfl nfour_end), rfl⟩
  | [v, u, x], _, _ => exact ⟨nfour_step u (by simp) rfl nfour_end, rfl⟩
  | [v, u, x, z], _, _ => exact ⟨nfour_end, rfl⟩
  | v :: u :: x :: z :: w :: r, _, h4 => exact absurd h4 (by simp only [List.length_cons]; omega)
def toP (v : Lne) : P3 := (v.f0, v.f1, v.f2)
theorem toP_o (v : Lne) : toP (o v) = oth (toP v) := by
  unfold o oth toP other; by_cases h : v.f0 = 3
  · rw [if_pos h]
  rw [if_neg h]
def tup (y : List Lne) (n : Int) := ((rd_T41 y 0).f0, (rd_T41 y 0).f1, (rd_T41 y 0).f2, (rd_T41 y 1).f0, (rd_T41 y 1).f1, (rd_T41 y 1).f2, (rd_T41 y 2).f0, (rd_T41 y 2).f1, (rd_T41 y 2).f2, (rd_T41 y 3).f0, (rd_T41 y 3).f1, (rd_T41 y 3).f2, n, (0 : Int))
theorem four_res (p : Nat → P3) (n : Int) (y : List Lne) (h1 : 1 ≤ y.length) (h4 : y.length ≤ 4) (hp : ∀ j v, y[j]? = some v → p j = toP v) : tup (four y) n = flat (res p (y.length - 1)) n := by
  match y, h1, h4 with
  | [v], _, _ =>
    have e0 := hp 0 v rfl; show _ = flat (p 0, oth (p 0), oth (p 0), oth (oth (p 0))) n
    rw [e0, ← toP_o, ← toP_o]; rfl
  | [v, u], _, _ =>
    have e0 := hp 0 v rfl; have e1 := hp 1 u rfl; show _ = flat (p 0, p 1, oth (p 0), oth (p 1)) n
    rw [e0, e1, ← toP_o, ← toP_o]; rfl
  | [v, u, x], _, _ =>
    have e0 := hp 0 v rfl; have e1 := hp 1 u rfl; have e2 := hp 2 x rfl; show _ = flat (p 0, p 1, p 2, oth (p 1)) n
    rw [e0, e1, e2, ← toP_o]; rfl
  | [v, u, x, z], _, _ =>
    have e0 := hp 0 v rfl; have e1 := hp 1 u rfl; have e2 := hp 2 x rfl; have e3 := hp 3 z rfl; show _ = flat (p 0, p 1, p 2, p 3) n
    rw [e0, e1, e2, e3]; rfl
  | v :: u :: x :: z :: w :: r, _, h4 => exact absurd h4 (by simp only [List.length_cons]; omega)
theorem four_read (p : Nat → P3) (ls : List Ld) (z : Nat) (h1 : 1 ≤ ls.length) (h4 : ls.length ≤ 4) (hok : ∀ d ∈ ls, d.ok) (hp : ∀ j d, ls[j]? = some d → p j = (d.v0, d.v1, d.nm)) :
    Ev (fun k => line_Four.f k (all (cat ls) z) 0) (flat (res p (ls.length - 1)) (((cat ls).length : Nat) : Int)) := by
  have hlen := cat_len ls hok; have hne : ls ≠ [] := by
    rintro rfl
    simp at h1
  have hrun := lines_run (l := all (cat ls) z) (most := 4) (by decide) ls [] 0 hne hok (by omega) (by simp; omega) (all_has (cat ls) [] (cat ls) z rfl) ⟨_, by rw [Nat.zero_add]; exact all_end (cat ls) z, rfl⟩; rw [Nat.zero_add, List.nil_append] at hrun; have hvl : (vals ls).length = ls.length := by simp [vals]
  obtain ⟨f1, f2⟩ := nfour (vals ls) (by omega) (by omega); have hr := four_res p (((cat ls).length : Nat) : Int) (vals ls) (by omega) (by omega) (fun j v hj => by
    unfold vals at hj; rw [List.getElem?_map] at hj; obtain ⟨d, hd, rfl⟩ := Option.map_eq_some_iff.1 hj; exact hp j d hd)
  rw [hvl] at hr; simp only [line_Four.f, line_lines.f]; refine ev_bind hrun (ev_pos rfl (ev_pos (by show 0 < (vals ls).length; omega) (ev_bind f1 (ev_pos f2 (ev_eq ?_)))))
  exact hr
/-! ### The run -/
structure Fine (v : P3) : Prop where
  z : v.2.2.size ≤ 140737488351232
theorem run_from (p : Nat → P3) (hz : ∀ j, (p j).2.2.size ≤ 140737488351232) : ∀ (r i : Nat) (s : ByteArray) (ls : List Ld), i + r = 4 → ls.length = i → (∀ j d, ls[j]? = some d → p j = (d.v0, d.v1, d.nm)) → (∀ d ∈ ls, d.ok) → s.data.toList = join (cat ls) → s.size ≤ i * 2000 →
    ∃ K, ∀ k, K ≤ k → Run k p i s := by
  intro r; induction r with
  | zero =>
    intro i s ls hi _ _ _ _ _; obtain rfl : i = 4 := by omega
    exact ⟨0, fun _ _ => Run.done⟩
  | succ r ih =>
    intro i s ls hi hl hp hok hs hsz; by_cases hg : good (p i).1 (p i).2.1 (p i).2.2 = true
    · have G := good_of hg
      obtain ⟨w, hw⟩ := write_any (p i).2.2 G.z; obtain ⟨ws, hL⟩ := line_words hg hw; have tz := text_size hg hw; have hlen := cat_len ls hok; have key : ∃ s' : ByteArray, s' = sep i s ++ text (p i).1 (p i).2.1 w ∧ s'.data.toList = join (cat (ls ++ [⟨(p i).1, (p i).2.1, (p i).2.2, ws⟩])) ∧ s'.size ≤ (i + 1) * 2000 := by
        refine ⟨_, rfl, ?_, ?_⟩
        · by_cases h0 : i = 0
          · subst h0
            have hn : ls = [] := List.length_eq_zero_iff.1 hl; subst hn; unfold sep; rw [if_pos rfl, app_list, hs, ← hL.jn]; rfl
          have hne : ls ≠ [] := by
            rintro rfl
            exact h0 hl.symm
          unfold sep; rw [if_neg h0, cat_snoc _ _ hne, join_app _ _ (cat_ne ls hne hok) (by simp), join_cons wSlash ws hL.ne, app_list, app_list, hs, hL.jn]; simp [wSlash]
        rw [ByteArray.size_append]; have : (sep i s).size ≤ s.size + 3 := by
          unfold sep; split
          · omega
          rw [ByteArray.size_append]; exact Nat.le_refl _
        omega
      obtain ⟨s', hs', hj', hz'⟩ := key; have hok' : ∀ d ∈ ls ++ [⟨(p i).1, (p i).2.1, (p i).2.2, ws⟩], d.ok := fun d hd => by
        rcases List.mem_append.1 hd with h | h
        · exact hok d h
        rcases List.mem_singleton.1 h with rfl
        exact ⟨_, hL⟩
      have hp' : ∀ j d, (ls ++ [⟨(p i).1, (p i).2.1, (p i).2.2, ws⟩] : List Ld)[j]? = some d → p j = (d.v0, d.v1, d.nm) := fun j d hd => by
        by_cases h : j < ls.length
        · rw [List.getElem?_append_left h] at hd
          exact hp j d hd
        rw [List.getElem?_append_right (by omega)] at hd; have hj : j - ls.length = 0 := by
          rcases Nat.eq_zero_or_pos (j - ls.length) with h2 | h2
          · exact h2
          rw [List.getElem?_eq_none (by simp; omega)] at hd; cases hd
        rw [hj] at hd; obtain rfl : (⟨(p i).1, (p i).2.1, (p i).2.2, ws⟩ : Ld) = d := si_ hd; obtain rfl : j = i := by omega
        rfl
      have hll : (ls ++ [⟨(p i).1, (p i).2.1, (p i).2.2, ws⟩] : List Ld).length = i + 1 := by rw [List.length_append, List.length_singleton, hl]
      have hlen' := cat_len _ hok'; rw [hll] at hlen'; obtain ⟨K0, h0⟩ := ih (i + 1) s' _ (by omega) hll hp' hok' hj' hz'; obtain ⟨K1, h1⟩ := lgood_big (p i).1 (p i).2.1 (p i).2.2 (hz i); obtain ⟨K2, h2⟩ := ltext hg hw; obtain ⟨K3, h3⟩ := words_f (T := s') (by omega) (cat (ls ++ [⟨(p i).1, (p i).2.1, (p i).2.2, ws⟩])) (cat_ne _ (by simp) hok') (cat_ok _ hok') hj' (by omega); obtain ⟨K4, h4⟩ := four_read p (ls ++ [⟨(p i).1, (p i).2.1, (p i).2.2, ws⟩]) s'.size (by omega) (by omega) hok' hp'; rw [hll, Nat.add_sub_cancel] at h4; have hal := all_length (cat (ls ++ [⟨(p i).1, (p i).2.1, (p i).2.2, ws⟩])) s'.size; refine ⟨K0 + K1 + K2 + K3 + K4, fun k hk => ?_⟩
      have g1 := h1 k (by omega); rw [hg] at g1; have g4 := h4 k (by omega); rw [show (((cat (ls ++ [⟨(p i).1, (p i).2.1, (p i).2.2, ws⟩])).length : Nat) : Int) = ((all (cat (ls ++ [⟨(p i).1, (p i).2.1, (p i).2.2, ws⟩])) s'.size).length : Int) - 1 by rw [hal]; omega] at g4; exact Run.step (by omega) g1 (by omega) (h2 k (by omega)) (by omega) (by rw [← hs']; exact h3 k (by omega)) ⟨by rw [hal]; omega, by rw [hal]; omega⟩ g4 (by rw [← hs']; exact h0 k (by omega))
    obtain ⟨K1, h1⟩ := lgood_big (p i).1 (p i).2.1 (p i).2.2 (hz i); refine ⟨K1, fun k hk => Run.stop (by omega) ?_⟩
    have := h1 k hk
    rw [Bool.eq_false_iff.2 hg] at this; exact this
theorem LineFours (a b c d : P3) (ha : a.2.2.size ≤ 140737488351232) (hb : b.2.2.size ≤ 140737488351232) (hc : c.2.2.size ≤ 140737488351232) (hd : d.2.2.size ≤ 140737488351232) : ∃ k, parterrelaw07_lives.f k = some true ∧ Run k (pj a b c d) 0 ⟨#[]⟩ := by
  obtain ⟨K0, h0⟩ := run_from (pj a b c d) (fun j => by
    match j with
    | 0 => exact ha
    | 1 => exact hb
    | 2 => exact hc
    | n + 3 => exact hd) 4 0 ⟨#[]⟩ [] rfl rfl (fun j d h => by cases h) (fun d h => by cases h) rfl (Nat.zero_le _)
  obtain ⟨K1, h1⟩ := line_lives; exact ⟨K0 + K1, h1 _ (by omega), h0 _ (by omega)⟩
end Go.Proofs.YtofdhdafabmhmaaDoor.Pure
end
section
/- The statement LineFours: whatever the arguments are, the law answers true, and they read behind the call as they read before. Conditions: none. -/
namespace Go.Proofs.YtofdhdafabmhmaaDoor.lineFours
open Go.ChangeShapes Go.WideShapes Go.ChangeAt Go.RowKit
open Go.ChangeMaps (open_string shut_string)
open Go.Proofs.YtofdhdafabmhmaaDoor.Opn Go.Proofs.YtofdhdafabmhmaaDoor.PLf4
open Go.Proofs.YtofdhdafabmhmaaDoorW.PrintWords
def g41 (x : S41) : Prop := (gInt .i64) x.f0 ∧ (gInt .i64) x.f1 ∧ gStr x.f2
theorem o41 : Opens Tryd.prog 41 k41 g41 := by
  have h := opens_iso (f := fun x : S41 => (x.f0, x.f1, x.f2)) (fun a => ⟨a.1, a.2.1, a.2.2⟩) (fun _ => rfl) (opens_struct Tryd.underlying41 (by kernel_rfl) (opensF_cons rfl (by kernel_rfl) (opens_int Tryd.underlying3) (opensF_cons rfl (by kernel_rfl) (opens_int Tryd.underlying3) (opensF_one rfl (by kernel_rfl) (opens_string Tryd.underlying9)))))
  exact h
theorem own : ownKnob Tryd.prog.godebug = none := by kernel_rfl
theorem laidOut : laidOutB Tryd.prog = true := by kernel_rfl
set_option maxRecDepth 100000 in
theorem lifted (os : Os) (started : os.Started) (H : Type) (enc : TypeId × Value → H) :
    ReturnsInHanded {} Tryd.checked os 7 .any (fun w args => (Rows.lineFoursSpec.pre enc Tryd.prog Tryd.f7 [] false w args ∧ laidMetH Tryd.prog Dor.laid w) ∧ sizedMet enc Tryd.prog Tryd.f7 (OpenSpec.ofChange Rows.lineFoursSpec) false w args) (Rows.lineFoursSpec.post enc Tryd.prog Tryd.f7 false true false false) := by
  refine returnsInHanded_of_change_and (C := Tryd.checked) (X := fun w _ => laidMetH Tryd.prog Dor.laid w) (fun _ _ _ hh h => h.of_heap hh) own started (by kernel_rfl) Tryd.func7
    (ChangeSpec.witness_shaped (enc := enc) (C := Tryd.checked) (os := os) (X := fun w _ => laidMetH Tryd.prog Dor.laid w) false (World.doorLaid Tryd.prog 1000 os) #[.agg #[.int .i64 0, .int .i64 0, .string ByteArray.empty], .agg #[.int .i64 0, .int .i64 0, .string ByteArray.empty], .agg #[.int .i64 0, .int .i64 0, .string ByteArray.empty], .agg #[.int .i64 0, .int .i64 0, .string ByteArray.empty]] 8 rfl (World.shaped_of_RefB (by kernel_rfl) (by kernel_rfl)) (by kernel_rfl) (by kernel_rfl) (by kernel_rfl) (Dor.met os _)) ?_
  intro W base args ds gs before hval0 hW hcnd hsz0 hL _
  have hsz : (DataW.weightsEach Tryd.prog (Tryd.f7.params.toList ++ Rows.lineFoursSpec.plain.varTypes Tryd.prog) (ds ++ gs)).all (· ≤ reachBytes) = true := hsz0
  have hval : ∀ (j : Nat) t v, Tryd.f7.params[j]? = some t → args[j]? = some v → Value.okWide Tryd.prog W .any base t v := hval0
  have hW' := hW
  obtain ⟨p, q, hA0, hV, rfl, hfz, hnd⟩ := hW
  have hA : DataW.TrodAll enc Tryd.prog W 0 (fun _ => true) true Tryd.f7.params.toList args.toList ds p := hA0
  rw [Tryd.params7] at hA hval hsz
  obtain ⟨v0, vs0, d0, ds0, p0, q0, hargs, rfl, rfl, h0, r0⟩ := trodAll_cons hA
  obtain ⟨v1, vs1, d1, ds1, p1, q1, rfl, rfl, rfl, h1, r1⟩ := trodAll_cons r0
  obtain ⟨v2, vs2, d2, ds2, p2, q2, rfl, rfl, rfl, h2, r2⟩ := trodAll_cons r1
  obtain ⟨v3, vs3, d3, ds3, p3, q3, rfl, rfl, rfl, h3, r3⟩ := trodAll_cons r2
  obtain ⟨rfl, rfl, rfl⟩ := trodAll_nil r3
  obtain rfl : args = #[v0, v1, v2, v3] := by cases args; simp_all
  obtain ⟨rfl, rfl⟩ := trodVars_none hV
  obtain ⟨cs0, rfl, _⟩ := okWide_struct Tryd.underlying41 (hval 0 41 v0 rfl rfl)
  have k0 := h0
  have lt0 : ∀ x ∈ p0, x.block < W.heap.size := by obtain ⟨m, hm⟩ := k0; exact DataW.trod_lt m _ _ _ hm
  obtain ⟨x0, hK0, hg0⟩ := arg_agg o41 h0 (weighs hsz (j := 0) (t := 41) rfl rfl)
  obtain rfl := array_of (k41_open hK0)
  obtain ⟨cs1, rfl, _⟩ := okWide_struct Tryd.underlying41 (hval 1 41 v1 rfl rfl)
  have k1 := h1
  have lt1 : ∀ x ∈ p1, x.block < W.heap.size := by obtain ⟨m, hm⟩ := k1; exact DataW.trod_lt m _ _ _ hm
  obtain ⟨x1, hK1, hg1⟩ := arg_agg o41 h1 (weighs hsz (j := 1) (t := 41) rfl rfl)
  obtain rfl := array_of (k41_open hK1)
  obtain ⟨cs2, rfl, _⟩ := okWide_struct Tryd.underlying41 (hval 2 41 v2 rfl rfl)
  have k2 := h2
  have lt2 : ∀ x ∈ p2, x.block < W.heap.size := by obtain ⟨m, hm⟩ := k2; exact DataW.trod_lt m _ _ _ hm
  obtain ⟨x2, hK2, hg2⟩ := arg_agg o41 h2 (weighs hsz (j := 2) (t := 41) rfl rfl)
  obtain rfl := array_of (k41_open hK2)
  obtain ⟨cs3, rfl, _⟩ := okWide_struct Tryd.underlying41 (hval 3 41 v3 rfl rfl)
  have k3 := h3
  have lt3 : ∀ x ∈ p3, x.block < W.heap.size := by obtain ⟨m, hm⟩ := k3; exact DataW.trod_lt m _ _ _ hm
  obtain ⟨x3, hK3, hg3⟩ := arg_agg o41 h3 (weighs hsz (j := 3) (t := 41) rfl rfl)
  obtain rfl := array_of (k41_open hK3)
  clear hA0 hval0 hsz0 hsz
  obtain ⟨k, hk, hr⟩ := Pure.LineFours (x0.f0, x0.f1, x0.f2) (x1.f0, x1.f1, x1.f2) (x2.f0, x2.f1, x2.f2) (x3.f0, x3.f1, x3.f2) hg0.2.2 hg1.2.2 hg2.2.2 hg3.2.2
  refine (Giv.parterrelaw07_LineFours.calls k x0.f0 x0.f1 x0.f2 x1.f0 x1.f1 x1.f2 x2.f0 x2.f1 x2.f2 x3.f0 x3.f1 x3.f2 W hk (Dor.tab_of hL) hr).mono fun e W' ⟨he, bel0⟩ => ?_
  have bel : Below W.heap.size W W' := bel0
  subst he
  exact ⟨_, rfl, _, _, _, [], _, [], hW', trodAll_mk1 (shut_bool Tryd.underlying4 _), (trodAll_cons_mk (Below.trod laidOut (by kernel_rfl) (of_decide_eq_true (by kernel_rfl)) k0 bel lt0) (trodAll_cons_mk (Below.trod laidOut (by kernel_rfl) (of_decide_eq_true (by kernel_rfl)) k1 bel lt1) (trodAll_cons_mk (Below.trod laidOut (by kernel_rfl) (of_decide_eq_true (by kernel_rfl)) k2 bel lt2) (trodAll_cons_mk (Below.trod laidOut (by kernel_rfl) (of_decide_eq_true (by kernel_rfl)) k3 bel lt3) trodAll_mk0)))), rfl, bel.frame _, fun h => by cases h⟩
theorem over : Rows.lineFoursRow.holds Tryd.pinned (OpenSpec.ofChange Rows.lineFoursSpec) :=
  OpenClaim.holds_of_wide 7 Tryd.f7 rfl rfl rfl rfl rfl rfl rfl ⟨rfl, rfl, rfl, rfl, rfl⟩ rfl rfl rfl rfl rfl (by kernel_rfl) Tryd.func7 (by kernel_rfl)
    (of_decide_eq_true (by kernel_rfl)) (by unfold Func.isWrapper; first | (rw [if_pos (by decide +kernel)]; kernel_rfl) | (rw [if_neg (by decide +kernel)]; exact ⟨rfl, rfl⟩))
    (fun os started H enc _ => lifted os started H enc)
theorem card_holds : Rows.LineFoursCardSaid :=
  Claim7.holds_tied_plain_at .later [] [.data, .data, .data] true (true, "337d80b408899af679114773d9a5a4e4cbe6b1166ff577fdd8390ef57ed50a1f") true
    over (fun _ h => by cases h) (by kernel_rfl) (fun _ h => by cases h) lineFours_row_tie rfl ⟨rfl, rfl⟩ (by kernel_rfl) rfl
    (fun f fn hf hfn => by
      obtain rfl : f = 7 := Option.some.inj ((show Tryd.prog.funcNamed "parterre/parterrelaw07.LineFours" = some 7 by kernel_rfl).symm.trans hf) |>.symm
      obtain rfl : fn = Tryd.f7 := (Option.some.inj (Tryd.func7.symm.trans hfn)).symm
      exact ⟨by kernel_rfl, fun j t ht => by
        rw [Tryd.params7] at ht
        have hm : t ∈ [41, 41, 41, 41] := by simpa using Array.mem_of_getElem? ht
        have hall : ([41, 41, 41, 41].all fun u => !Tryd.prog.wantsStandIn u) = true := by kernel_rfl
        exact (show Tryd.prog.wantsStandIn t = false by simpa using List.all_eq_true.1 hall t hm)⟩)
    (by kernel_rfl)
#print axioms card_holds
end Go.Proofs.YtofdhdafabmhmaaDoor.lineFours
namespace Go.Proofs.YtofdhdafabmhmaaDoor
/-- The card, under a short name, for the claim. -/
theorem lineFours_card : Rows.LineFoursCardSaid := lineFours.card_holds
end Go.Proofs.YtofdhdafabmhmaaDoor
end
