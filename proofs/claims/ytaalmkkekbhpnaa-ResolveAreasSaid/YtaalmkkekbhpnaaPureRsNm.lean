/- Names of lines, as plain lists: what the printed functions of the packages names and parterreref16 answer. Conditions: small tables. -/
import Derived.Test.YtaalmkkekbhpnaaPRax7
import Derived.Test.YtaalmkkekbhpnaaPRax8
import Derived.Test.YtaalmkkekbhpnaaEv
import Derived.Test.YtaalmkkekbhpnaaGfind
set_option linter.unusedVariables false
set_option linter.unusedSimpArgs false
namespace Go.Proofs.Ytaalmkkekbhpnaa.PureRsNm
open Go.RowKit Go.Proofs.YtaalmkkekbhpnaaW.PrintWords Go.Proofs.YtaalmkkekbhpnaaW.PrintMore Go.Proofs.Ytaalmkkekbhpnaa.Evs Go.Proofs.Ytaalmkkekbhpnaa.Giv Go.Proofs.Ytaalmkkekbhpnaa.Opn Go.Proofs.Ytaalmkkekbhpnaa.PRa

/-- A table that is looked at. -/
def Light (t : List (List ByteArray)) : Prop := t.length ≤ 600 ∧ ∀ l ∈ t, l.length ≤ 600

theorem rd_line (t : List (List ByteArray)) (k : Nat) : rd_L1 t (k : Int) = lineAt t k := by simp [rd_L1, lineAt]
theorem rdOf_name (l : List ByteArray) (k : Nat) : rdOf ByteArray.empty l (k : Int) = nameAt l k := by simp [rdOf, nameAt]
theorem line_mem {t : List (List ByteArray)} {k : Nat} (h : k < t.length) : lineAt t k ∈ t := by
  unfold lineAt
  rw [List.getD_eq_getElem?_getD, List.getElem?_eq_getElem h]
  exact List.getElem_mem h
theorem drop_line {t : List (List ByteArray)} {k : Nat} (h : k < t.length) : t.drop k = lineAt t k :: t.drop (k + 1) := by
  rw [List.drop_eq_getElem_cons h]
  congr 1
  simp [lineAt, List.getD_eq_getElem?_getD, List.getElem?_eq_getElem h]
theorem drop_name {l : List ByteArray} {k : Nat} (h : k < l.length) : l.drop k = nameAt l k :: l.drop (k + 1) := by
  rw [List.drop_eq_getElem_cons h]
  congr 1
  simp [nameAt, List.getD_eq_getElem?_getD, List.getElem?_eq_getElem h]

/-! ### has -/
/-! ### light -/
/-! ### lines of a name -/
theorem small_of {t : List (List ByteArray)} (h : Light t) (hg : gSl 24 (gSl 16 gStr) t) : Small t := by
  refine ⟨by have := h.1; omega, fun l hl => ⟨by have := h.2 l hl; omega, fun s hs => ?_⟩⟩
  have := (hg.2 l hl).2 s hs
  unfold gStr at this
  omega
theorem find_some {t : List (List ByteArray)} (h : Small t) {s : ByteArray} (hs : s.size ≤ 9223372036854775807) : names_Find.f t s = some (hitsK t s t.length) := by
  unfold names_Find.f
  rw [if_pos ⟨h, hs⟩]

theorem hits_bd {t : List (List ByteArray)} {s : ByteArray} {k : Nat} {x : Int} (h : x ∈ hitsK t s k) : 0 ≤ x ∧ x < k := by
  unfold hitsK at h
  obtain ⟨i, hi, rfl⟩ := List.mem_map.1 h
  have := List.mem_range.1 (List.mem_filter.1 hi).1
  omega
theorem hits_length (t : List (List ByteArray)) (s : ByteArray) (k : Nat) : (hitsK t s k).length ≤ k := by
  unfold hitsK
  rw [List.length_map]
  exact Nat.le_trans (List.length_filter_le _ _) (by simp)
theorem hits_mem (t : List (List ByteArray)) (s : ByteArray) (k : Nat) (x : Int) : x ∈ hitsK t s k ↔ ∃ i : Nat, i < k ∧ hasN (lineAt t i) s = true ∧ x = (i : Int) := by
  unfold hitsK
  constructor
  · intro h
    obtain ⟨i, hi, rfl⟩ := List.mem_map.1 h
    obtain ⟨h1, h2⟩ := List.mem_filter.1 hi
    exact ⟨i, List.mem_range.1 h1, h2, rfl⟩
  · rintro ⟨i, h1, h2, rfl⟩
    exact List.mem_map.2 ⟨i, List.mem_filter.2 ⟨List.mem_range.2 h1, h2⟩, rfl⟩
theorem hits_sorted (t : List (List ByteArray)) (s : ByteArray) (k : Nat) : (hitsK t s k).Pairwise (· < ·) := by
  unfold hitsK
  rw [List.pairwise_map]
  refine List.Pairwise.imp ?_ ((List.pairwise_lt_range (n := k)).filter _)
  intro a b h
  omega

/-- Those behind a line, those ahead of it (from it on). -/
def after (t : List (List ByteArray)) (s : ByteArray) (f : Int) : List Int := (hitsK t s t.length).filter (fun x => decide (f < x))
def ahead (t : List (List ByteArray)) (s : ByteArray) (f : Int) : List Int := (hitsK t s t.length).reverse.filter (fun x => decide (x < f))
/-- The n-th of a list (from 1 on), or so many steps behind m as there are too few. -/
def up (l : List Int) (m : Int) (n : Nat) : Int := if n ≤ l.length then l.getD (n - 1) 0 else m + ((n : Int) - l.length)
def down (l : List Int) (m : Int) (n : Nat) : Int := if n ≤ l.length then l.getD (n - 1) 0 else m - ((n : Int) - l.length)

theorem up_cons (x : Int) (l : List Int) (m : Int) (n : Nat) (hn : 2 ≤ n) : up (x :: l) m n = up l m (n - 1) := by
  obtain ⟨n, rfl⟩ : ∃ q, n = q + 2 := ⟨n - 2, by omega⟩
  unfold up
  rw [List.length_cons]
  by_cases h : n + 2 ≤ l.length + 1
  · rw [if_pos h, if_pos (by omega)]
    simp
  · rw [if_neg h, if_neg (by omega)]
    omega
theorem up_one (x : Int) (l : List Int) (m : Int) : up (x :: l) m 1 = x := by simp [up]
theorem down_cons (x : Int) (l : List Int) (m : Int) (n : Nat) (hn : 2 ≤ n) : down (x :: l) m n = down l m (n - 1) := by
  obtain ⟨n, rfl⟩ : ∃ q, n = q + 2 := ⟨n - 2, by omega⟩
  unfold down
  rw [List.length_cons]
  by_cases h : n + 2 ≤ l.length + 1
  · rw [if_pos h, if_pos (by omega)]
    simp
  · rw [if_neg h, if_neg (by omega)]
    omega
theorem up_nil (m : Int) (n : Nat) (hn : 1 ≤ n) : up [] m n = m + n := by
  unfold up
  rw [if_neg (by simp; omega)]
  simp
theorem down_nil (m : Int) (n : Nat) (hn : 1 ≤ n) : down [] m n = m - n := by
  unfold down
  rw [if_neg (by simp; omega)]
  simp
theorem down_one (x : Int) (l : List Int) (m : Int) : down (x :: l) m 1 = x := by simp [down]

/-! ### the program: Along -/
theorem drop_get {l : List Int} {k : Nat} (h : k < l.length) : l.drop k = rd l (k : Int) :: l.drop (k + 1) := by
  rw [List.drop_eq_getElem_cons h]
  congr 1
  simp [rd, List.getD_eq_getElem?_getD, List.getElem?_eq_getElem h]

theorem along_up_loop (t : List (List ByteArray)) (f : Int) (l : List Int) (ht : t.length ≤ 100000) (hl : l.length ≤ 100000) (hf : -100000 ≤ f ∧ f ≤ 100000) : ∀ d i n : Nat, l.length - i = d → i ≤ l.length → 1 ≤ n → n ≤ 100000 →
    Ev (fun k => names_Along.l0 k t f (n : Int) l (l.length : Int) (i : Int)) (up ((l.drop i).filter (fun x => decide (f < x))) (max f ((t.length : Int) - 1)) n) := by
  intro d
  induction d with
  | zero =>
    intro i n hd hi h1 h2
    have : i = l.length := by omega
    subst this
    refine ev_step ?_
    simp only [names_Along.l0]
    refine ev_neg (by omega) (ev_eq ?_)
    rw [mx_eq, w64 (x := (t.length : Int) - 1) (by omega) (by omega), w64 (by omega) (by omega)]
    simp [up]
    omega
  | succ d ih =>
    intro i n hd hi h1 h2
    have hlt : i < l.length := by omega
    refine ev_step ?_
    simp only [names_Along.l0]
    refine ev_pos (by omega) (ev_pos (by omega) (ev_pos (by omega) ?_))
    rw [w64 (x := (i : Int) + 1) (by omega) (by omega), drop_get hlt]
    refine ev_ite (fun h => ?_) (fun h => ?_)
    · rw [List.filter_cons_of_neg (by simp; omega)]
      exact ih (i + 1) n (by omega) (by omega) h1 h2
    · rw [List.filter_cons_of_pos (by simp; omega)]
      refine ev_ite (fun h0 => ?_) (fun h0 => ?_)
      · rw [w64 (by omega) (by omega)] at h0
        have : n = 1 := by omega
        subst this
        rw [up_one]
        exact ev_some
      · rw [w64 (by omega) (by omega)] at h0 ⊢
        rw [up_cons _ _ _ _ (by omega)]
        have := ih (i + 1) (n - 1) (by omega) (by omega) (by omega) (by omega)
        rw [show ((n - 1 : Nat) : Int) = (n : Int) - 1 by omega] at this
        exact this

theorem along_down_loop (f : Int) (l : List Int) (hl : l.length ≤ 100000) (hf : -100000 ≤ f ∧ f ≤ 100000) : ∀ i n : Nat, i ≤ l.length → 1 ≤ n → n ≤ 100000 →
    Ev (fun k => names_Along.l1 k f (-(n : Int)) l ((i : Int) - 1)) (down ((l.take i).reverse.filter (fun x => decide (x < f))) (min f 0) n) := by
  intro i
  induction i with
  | zero =>
    intro n hi h1 h2
    refine ev_step ?_
    simp only [names_Along.l1]
    refine ev_neg (by omega) (ev_eq ?_)
    rw [mn_eq, w64 (by omega) (by omega)]
    simp [down]
    omega
  | succ i ih =>
    intro n hi h1 h2
    have hlt : i < l.length := by omega
    have he : ((i + 1 : Nat) : Int) - 1 = (i : Int) := by omega
    rw [he]
    refine ev_step ?_
    simp only [names_Along.l1]
    refine ev_pos (by omega) (ev_pos (by omega) (ev_pos (by omega) ?_))
    have ht : (l.take (i + 1)).reverse = rd l (i : Int) :: (l.take i).reverse := by
      rw [List.take_succ_eq_append_getElem hlt, List.reverse_append]
      simp [rd, List.getD_eq_getElem?_getD, List.getElem?_eq_getElem hlt]
    rw [w64 (x := (i : Int) - 1) (by omega) (by omega), ht]
    refine ev_ite (fun h => ?_) (fun h => ?_)
    · rw [List.filter_cons_of_neg (by simp; omega)]
      exact ih n (by omega) h1 h2
    · rw [List.filter_cons_of_pos (by simp; omega)]
      refine ev_ite (fun h0 => ?_) (fun h0 => ?_)
      · rw [w64 (by omega) (by omega)] at h0
        have : n = 1 := by omega
        subst this
        rw [down_one]
        exact ev_some
      · rw [w64 (by omega) (by omega)] at h0 ⊢
        rw [down_cons _ _ _ _ (by omega)]
        have := ih (n - 1) (by omega) (by omega) (by omega)
        rw [show -((n - 1 : Nat) : Int) = -(n : Int) + 1 by omega] at this
        exact this

/-- What 'Along' tells. -/
def alongV (t : List (List ByteArray)) (s : ByteArray) (f n : Int) : Int :=
  if n = 0 ∨ t.length = 0 ∨ n > 10000 ∨ n < -10000 ∨ f > 30000 ∨ f < -30000 then f
  else if n > 0 then up (after t s f) (max f ((t.length : Int) - 1)) n.toNat else down (ahead t s f) (min f 0) (-n).toNat

theorem along_ev (t : List (List ByteArray)) (s : ByteArray) (f n : Int) (ht : Small t) (hl : t.length ≤ 100000) (hs : s.size ≤ 9223372036854775807) : Ev (fun k => names_Along.f k t s f n) (alongV t s f n) := by
  have hj : ∀ b : Bool, (b = true → alongV t s f n = f) → (b = false → ¬(n = 0 ∨ t.length = 0 ∨ n > 10000 ∨ n < -10000 ∨ f > 30000 ∨ f < -30000)) → Ev (fun k => names_Along.j0 k t s f n b) (alongV t s f n) := by
    intro b h1 h2
    refine ev_step ?_
    simp only [names_Along.j0]
    refine ev_ite (fun h => ev_eq (h1 h).symm) (fun h => ?_)
    have h2 := h2 (by simpa using h)
    refine ev_bindc (find_some ht hs) ?_
    have hlen := hits_length t s t.length
    unfold alongV
    rw [if_neg h2]
    refine ev_ite (fun hn => ?_) (fun hn => ?_)
    · rw [if_pos hn]
      have := along_up_loop t f (hitsK t s t.length) hl (by omega) (by omega) _ 0 n.toNat rfl (Nat.zero_le _) (by omega) (by omega)
      rw [show ((n.toNat : Nat) : Int) = n by omega] at this
      exact this
    · rw [if_neg hn]
      have := along_down_loop f (hitsK t s t.length) (by omega) (by omega) (hitsK t s t.length).length (-n).toNat (Nat.le_refl _) (by omega) (by omega)
      rw [show -(((-n).toNat : Nat) : Int) = n by omega, List.take_length] at this
      rw [w64 (by omega) (by omega)]
      exact this
  unfold names_Along.f
  refine ev_ite (fun h => hj _ (fun _ => ?_) (by simp)) (fun h1 => ev_ite (fun h => hj _ (fun _ => ?_) (by simp)) (fun h2 => ev_ite (fun h => hj _ (fun _ => ?_) (by simp)) (fun h3 => ev_ite (fun h => hj _ (fun _ => ?_) (by simp)) (fun h4 => ev_ite (fun h => hj _ (fun _ => ?_) (by simp)) (fun h5 => hj _ (fun h => ?_) (fun h => ?_))))))
  · exact if_pos (by omega)
  · exact if_pos (by omega)
  · exact if_pos (by omega)
  · exact if_pos (by omega)
  · exact if_pos (by omega)
  · have := of_decide_eq_true h
    exact if_pos (by omega)
  · have := of_decide_eq_false h
    omega

/-! ### the document's answer: Along -/
def beh (t : List (List ByteArray)) (s : ByteArray) (i : Nat) : List Int := ((List.range' i (t.length - i)).filter (fun j => hasN (lineAt t j) s)).map (fun j : Nat => (j : Int))
theorem beh_end {t : List (List ByteArray)} {s : ByteArray} {i : Nat} (h : t.length ≤ i) : beh t s i = [] := by
  unfold beh
  rw [show t.length - i = 0 by omega]
  rfl
theorem beh_step {t : List (List ByteArray)} {s : ByteArray} {i : Nat} (h : i < t.length) : beh t s i = if hasN (lineAt t i) s = true then (i : Int) :: beh t s (i + 1) else beh t s (i + 1) := by
  unfold beh
  rw [show t.length - i = (t.length - (i + 1)) + 1 by omega, List.range'_succ, List.filter_cons]
  split <;> rfl
theorem after_eq (t : List (List ByteArray)) (s : ByteArray) (f : Int) : after t s f = beh t s (f + 1).toNat := by
  unfold after hitsK beh
  have hr : List.range t.length = List.range' 0 (min (f + 1).toNat t.length) ++ List.range' (min (f + 1).toNat t.length) (t.length - (f + 1).toNat) := by
    have h0 := List.range'_append_1 (s := 0) (m := min (f + 1).toNat t.length) (n := t.length - (f + 1).toNat)
    rw [Nat.zero_add] at h0
    rw [h0, List.range_eq_range']
    congr 1
    omega
  rw [hr, List.filter_append, List.map_append, List.filter_append]
  have h1 : (((List.range' 0 (min (f + 1).toNat t.length)).filter (fun i => hasN (lineAt t i) s)).map (fun i : Nat => (i : Int))).filter (fun x => decide (f < x)) = [] := by
    rw [List.filter_eq_nil_iff]
    intro x hx
    obtain ⟨i, hi, rfl⟩ := List.mem_map.1 hx
    have := List.mem_range'_1.1 (List.mem_filter.1 hi).1
    simp
    omega
  rw [h1, List.nil_append]
  by_cases hc : (f + 1).toNat ≤ t.length
  · rw [Nat.min_eq_left hc, List.filter_eq_self]
    intro x hx
    obtain ⟨i, hi, rfl⟩ := List.mem_map.1 hx
    have := List.mem_range'_1.1 (List.mem_filter.1 hi).1
    simp
    omega
  · rw [show t.length - (f + 1).toNat = 0 by omega]
    rfl
theorem ahead_eq (t : List (List ByteArray)) (s : ByteArray) (f : Int) : ahead t s f = (hitsK t s (min f.toNat t.length)).reverse := by
  unfold ahead
  rw [List.filter_reverse]
  congr 1
  unfold hitsK
  have hr : List.range t.length = List.range (min f.toNat t.length) ++ List.range' (min f.toNat t.length) (t.length - f.toNat) := by
    have h0 := List.range'_append_1 (s := 0) (m := min f.toNat t.length) (n := t.length - f.toNat)
    rw [Nat.zero_add] at h0
    rw [List.range_eq_range', List.range_eq_range', h0]
    congr 1
    omega
  rw [hr, List.filter_append, List.map_append, List.filter_append]
  have h1 : (((List.range' (min f.toNat t.length) (t.length - f.toNat)).filter (fun i => hasN (lineAt t i) s)).map (fun i : Nat => (i : Int))).filter (fun x => decide (x < f)) = [] := by
    rw [List.filter_eq_nil_iff]
    intro x hx
    obtain ⟨i, hi, rfl⟩ := List.mem_map.1 hx
    have := List.mem_range'_1.1 (List.mem_filter.1 hi).1
    simp
    omega
  rw [h1, List.append_nil, List.filter_eq_self]
  intro x hx
  obtain ⟨i, hi, rfl⟩ := List.mem_map.1 hx
  have := List.mem_range.1 (List.mem_filter.1 hi).1
  simp
  omega

theorem light_line {t : List (List ByteArray)} (h : Light t) {i : Nat} (hi : i < t.length) : (lineAt t i).length ≤ 4611686018427387904 := by
  have := h.2 _ (line_mem hi)
  omega

/-! ### Nth -/
def nthV (t : List (List ByteArray)) (s : ByteArray) (n : Int) : Int :=
  if n = 0 ∨ t.length = 0 ∨ n > 10000 ∨ n < -10000 then 0
  else if n > 0 then up (hitsK t s t.length) ((t.length : Int) - 1) n.toNat else down (hitsK t s t.length).reverse 0 (-n).toNat
theorem rd_nat (l : List Int) (i : Int) : rd l i = l.getD i.toNat 0 := rfl
theorem nth_ev (t : List (List ByteArray)) (s : ByteArray) (n : Int) (ht : Small t) (hl : t.length ≤ 100000) (hs : s.size ≤ 9223372036854775807) : Ev (fun k => names_Nth.f k t s n) (nthV t s n) := by
  have hlen := hits_length t s t.length
  have hj : ∀ b : Bool, (b = true → nthV t s n = 0) → (b = false → ¬(n = 0 ∨ t.length = 0 ∨ n > 10000 ∨ n < -10000)) → Ev (fun k => names_Nth.j0 k t n (hitsK t s t.length) b) (nthV t s n) := by
    intro b h1 h2
    refine ev_step ?_
    simp only [names_Nth.j0]
    refine ev_ite (fun h => ev_eq (h1 h).symm) (fun h => ?_)
    have h2 := h2 (by simpa using h)
    unfold nthV
    rw [if_neg h2]
    rw [w64 (x := (t.length : Int) - 1) (by omega) (by omega), w64 (x := (t.length : Int) - 1 + n) (by omega) (by omega), w64 (x := (t.length : Int) - 1 + n - ((hitsK t s t.length).length : Int)) (by omega) (by omega), w64 (x := n - 1) (by omega) (by omega), w64 (x := -n) (by omega) (by omega),
      w64 (x := n + ((hitsK t s t.length).length : Int)) (by omega) (by omega), w64 (x := ((hitsK t s t.length).length : Int) + n) (by omega) (by omega)]
    refine ev_ite (fun h => ev_eq ?_) (fun h => ev_ite (fun h0 => ev_pos (by omega) (ev_pos (by omega) (ev_eq ?_))) (fun h0 => ev_ite (fun h1 => ev_eq ?_) (fun h1 => ev_pos (by omega) (ev_pos (by omega) (ev_eq ?_)))))
    · rw [if_pos (by omega)]
      unfold up
      rw [if_neg (by omega)]
      omega
    · rw [if_pos h0]
      unfold up
      rw [if_pos (by omega), rd_nat]
      congr 1
      omega
    · rw [if_neg h0]
      unfold down
      rw [List.length_reverse, if_neg (by omega)]
      omega
    · rw [if_neg h0]
      unfold down
      rw [List.length_reverse, if_pos (by omega), rd_nat, List.getD_eq_getElem?_getD, List.getD_eq_getElem?_getD, List.getElem?_reverse (by omega)]
      congr 2
      omega
  unfold names_Nth.f
  refine ev_bindc (find_some ht hs) ?_
  refine ev_ite (fun h => hj _ (fun _ => ?_) (by simp)) (fun h1 => ev_ite (fun h => hj _ (fun _ => ?_) (by simp)) (fun h2 => ev_ite (fun h => hj _ (fun _ => ?_) (by simp)) (fun h3 => hj _ (fun h => ?_) (fun h => ?_))))
  · exact if_pos (by omega)
  · exact if_pos (by omega)
  · exact if_pos (by omega)
  · have := of_decide_eq_true h
    exact if_pos (by omega)
  · have := of_decide_eq_false h
    omega

end Go.Proofs.Ytaalmkkekbhpnaa.PureRsNm

