/- AreaTellsCardSaid, part 13 of 15: contracts of the program's functions, the words that they use, and the plain laws on what they compute. Conditions: none beyond what the statements say. -/
import Derived.Test.YtofdhdafabmhmaaGreatDoorKAt8
import Derived.Test.YtofdhdafabmhmaaGreatDoorKAt9
import Derived.Test.YtofdhdafabmhmaaGreatDoorKAt11
import Derived.Test.YtofdhdafabmhmaaGreatDoorKAt2
import Derived.Test.YtofdhdafabmhmaaGreatDoorKAt10
set_option linter.unusedVariables false
set_option linter.unusedSimpArgs false
section
/- The document's areas: its Good, Rects are area's. Conditions: as each theorem says. -/
namespace Go.Proofs.YtofdhdafabmhmaaGreatDoor.PureAr
open Go.RowKit Go.Proofs.YtofdhdafabmhmaaGreatDoorW.PrintWords Go.Proofs.YtofdhdafabmhmaaGreatDoorW.PrintMore Go.Proofs.YtofdhdafabmhmaaGreatDoor.Evs Go.Proofs.YtofdhdafabmhmaaGreatDoor.Opn Go.Proofs.YtofdhdafabmhmaaGreatDoor.PAr Go.Proofs.YtofdhdafabmhmaaGreatDoor.Giv
open Go
theorem w1 {i : Nat} (h : i ≤ 1000000000000) : wrap64 ((i : Int) + 1) = ((i + 1 : Nat) : Int) := by
 rw [w64 (by omega) (by omega)]
 omega
theorem w2 {i j : Nat} (h : i + j ≤ 1000000000000) : wrap64 ((i : Int) + (j : Int)) = ((i + j : Nat) : Int) := by
 rw [w64 (by omega) (by omega)]
 omega
theorem toL {s t : ByteArray} : s.toList = t.toList ↔ s = t := by
 constructor
 ·intro h
  rw [ByteArray.toList_eq, ByteArray.toList_eq] at h
  exact Go.WideShapes.bytes_inj h
 ·rintro rfl
  rfl
theorem toL0 {s : ByteArray} : s.toList = ([] : List UInt8) ↔ s.size = 0 := by
 rw [ByteArray.toList_eq, ← size_list]
 exact List.length_eq_zero_iff.symm
/-! ### name -/
theorem name_l0 {s : ByteArray} (hs : s.size ≤ 1000000) : ∀ (l : List UInt8) (n : Nat), Dr s n l → Ev (fun k => parterreref08_name.l0 k s (n : Int)) (l.all inB)
 | [], n, h => by
  refine ev_step ?_
  simp only [parterreref08_name.l0]
  have := h.nil
  exact ev_neg (by omega) (ev_eq rfl)
 | c :: l, n, h => by
  refine ev_step ?_
  simp only [parterreref08_name.l0]
  obtain ⟨h1, h2⟩ := h.get
  rw [h2, w1 (by omega), List.all_cons]
  refine ev_pos (by omega) (ev_pos (by omega) (ev_bindc (toldA c).ref ?_))
  cases inB c with
  | true => exact ev_pos rfl (by rw [Bool.true_and]; exact name_l0 hs l (n + 1) h.tail)
  | false => exact ev_neg (by decide) (ev_eq rfl)
theorem name_ev (s : ByteArray) : Ev (fun k => parterreref08_name.f k s) (cellOk s) := by
 simp only [parterreref08_name.f]
 unfold cellOk
 refine ev_ite (fun h => ev_eq ?_) (fun h => ?_)
 ·rw [decide_eq_false (by omega)]
  rfl
 ·rw [decide_eq_true (by omega), Bool.true_and]
  exact name_l0 (by omega) _ 0 (Dr.all s)
/-! ### first -/
/-- Rows that are as long as each other, and few. -/
structure Rct (l0 : List (List ByteArray)) (m : Nat) : Prop where
 n64 : l0.length ≤ 64
 m64 : m ≤ 64
 row : ∀ l ∈ l0, l.length = m
def before (i k r c : Nat) : Prop := i < r ∨ (i = r ∧ k < c)
section
variable {l0 : List (List ByteArray)} {m : Nat} {s : ByteArray} {r c i k : Nat}
theorem Rct.at_lt (h : Rct l0 m) {s : ByteArray} (hs : arAt l0 r c = some s) : r < l0.length ∧ c < m := by
 unfold arAt at hs
 obtain ⟨l, hl, hc⟩ := Option.bind_eq_some_iff.1 hs
 have h1 := (List.getElem?_eq_some_iff.1 hc).1
 rw [h.row l (List.mem_of_getElem? hl)] at h1
 exact ⟨(List.getElem?_eq_some_iff.1 hl).1, h1⟩
theorem Rct.at_ex (h : Rct l0 m) (hr : r < l0.length) (hc : c < m) : ∃ row s, l0[r]? = some row ∧ row[c]? = some s ∧ arAt l0 r c = some s ∧ row.length = m := by
 obtain ⟨row, hrow⟩ : ∃ row, l0[r]? = some row := ⟨_, List.getElem?_eq_getElem hr⟩
 have hm := h.row row (List.mem_of_getElem? hrow)
 obtain ⟨s, hs⟩ : ∃ s, row[c]? = some s := ⟨_, List.getElem?_eq_getElem (by omega)⟩
 exact ⟨row, s, hrow, hs, by unfold arAt; rw [hrow]; exact hs, hm⟩
def firstP (l0 : List (List ByteArray)) (r c : Nat) (s : ByteArray) : Prop := ∀ i k, before i k r c → arAt l0 i k ≠ some s
theorem first_l1 (h : Rct l0 m) (hs : arAt l0 r c = some s) : ∀ (d i k : Nat), (r + 1 - i) * (m + 1) - k ≤ d → i ≤ r → k ≤ m → (i = r → k ≤ c) → (∀ i' k', before i' k' i k → arAt l0 i' k' ≠ some s) → ∃ b, Ev (fun q => parterreref08_first.l1 q l0 (r : Int) (c : Int) (i : Int) (k : Int)) b ∧ (b = true ↔ firstP l0 r c s)
 | d, i, k, hd, hi, hk, hkc, hp => by
  obtain ⟨hr, hc⟩ := h.at_lt hs
  have hn := h.n64
  have hm := h.m64
  obtain ⟨row0, s0, hrow0, hs0, hat0, hl0⟩ := h.at_ex hr hc
  obtain rfl : s = s0 := Option.some.inj (hs.symm.trans hat0)
  obtain ⟨row, hrow⟩ : ∃ row, l0[i]? = some row := ⟨_, List.getElem?_eq_getElem (by omega)⟩
  have hl := h.row row (List.mem_of_getElem? hrow)
  by_cases hkm : k < m
  ·obtain ⟨t, ht⟩ : ∃ t, row[k]? = some t := ⟨_, List.getElem?_eq_getElem (by omega)⟩
   have hat : arAt l0 i k = some t := by unfold arAt; rw [hrow]; exact ht
   by_cases he : i = r ∧ k ≥ c
   ·refine ⟨true, ev_step ?_, ?_⟩
    ·simp only [parterreref08_first.l1]
     rw [lat l0 hrow]
     refine ev_pos (by omega) (ev_pos (by omega) (ev_pos (by omega) (ev_pos (by omega) ?_)))
     rw [decide_eq_true (by omega)]
     refine ev_step ?_
     simp only [parterreref08_first.j2]
     exact ev_pos (by trivial) ev_some
    ·obtain ⟨rfl, hkc2⟩ := he
     have : k = c := by have := hkc rfl; omega
     subst this
     exact ⟨fun _ => hp, fun _ => rfl⟩
   ·have go : ∀ {b}, Ev (fun q => parterreref08_first.j2 q l0 (r : Int) (c : Int) (i : Int) (k : Int) false) b → Ev (fun q => parterreref08_first.l1 q l0 (r : Int) (c : Int) (i : Int) (k : Int)) b := fun {b} hb => by
     refine ev_step ?_
     simp only [parterreref08_first.l1]
     rw [lat l0 hrow]
     refine ev_pos (by omega) (ev_pos (by omega) (ev_pos (by omega) (ev_ite (fun e => ?_) (fun _ => hb))))
     rw [decide_eq_false (by omega)]
     exact hb
    by_cases het : t = s
    ·subst het
     refine ⟨false, go (ev_step ?_), ?_⟩
     ·simp only [parterreref08_first.j2]
      rw [lat l0 hrow, lat l0 hrow0, sat row ht, sat row0 hs0]
      exact ev_neg (by decide) (ev_pos (by omega) (ev_pos (by omega) (ev_pos (by omega) (ev_pos (by omega) (ev_pos (by omega) (ev_pos (by omega) (ev_pos (by omega) (ev_pos (by omega) (ev_pos (by trivial) ev_some)))))))))
     ·refine ⟨fun h => (by cases h), fun hf => absurd hat (hf i k ?_)⟩
      by_cases hir : i = r
      ·exact .inr ⟨hir, by omega⟩
      ·exact .inl (by omega)
    ·have hdd : (r + 1 - i) * (m + 1) - (k + 1) < d ∨ (r + 1 - i) * (m + 1) - (k + 1) ≤ d - 1 := by omega
     have hpos : (r + 1 - i) * (m + 1) ≥ m + 1 := Nat.le_mul_of_pos_left _ (by omega)
     match d, hd with
     | 0, hd => omega
     | d + 1, hd =>
      obtain ⟨b, hb, hiff⟩ := first_l1 h hs d i (k + 1) (by omega) hi (by omega) (fun e => by omega) (fun i' k' hb => by
       by_cases hh : i' = i ∧ k' = k
       ·obtain ⟨rfl, rfl⟩ := hh
        rw [hat]
        exact fun e => het (Option.some.inj e)
       ·refine hp i' k' ?_
        unfold before at hb ⊢
        omega)
      refine ⟨b, go (ev_step ?_), hiff⟩
      simp only [parterreref08_first.j2]
      rw [lat l0 hrow, lat l0 hrow0, sat row ht, sat row0 hs0, w1 (by omega)]
      exact ev_neg (by decide) (ev_pos (by omega) (ev_pos (by omega) (ev_pos (by omega) (ev_pos (by omega) (ev_pos (by omega) (ev_pos (by omega) (ev_pos (by omega) (ev_pos (by omega) (ev_neg (fun e => het (toL.1 e)) hb)))))))))
  ·have hir : i ≠ r := fun e => by have := hkc e; omega
   have hpos : (r + 1 - i) * (m + 1) = (r + 1 - (i + 1)) * (m + 1) + (m + 1) := by
    rw [← Nat.succ_mul]
    congr 1
    omega
   match d, hd with
   | 0, hd => omega
   | d + 1, hd =>
    obtain ⟨b, hb, hiff⟩ := first_l1 h hs d (i + 1) 0 (by omega) (by omega) (by omega) (fun _ => by omega) (fun i' k' hb => by
     by_cases hh : i' < i ∨ (i' = i ∧ k' < k)
     ·exact hp i' k' hh
     ·unfold before at hb
      have e1 : i' = i := by omega
      subst e1
      intro e
      have := (h.at_lt e).2
      omega)
    refine ⟨b, ev_step ?_, hiff⟩
    simp only [parterreref08_first.l1]
    rw [lat l0 hrow, w1 (by omega)]
    refine ev_pos (by omega) (ev_pos (by omega) (ev_neg (by omega) (ev_step ?_)))
    simp only [parterreref08_first.l0]
    exact ev_pos (by omega) (by simpa using hb)
theorem first_ev (h : Rct l0 m) (hs : arAt l0 r c = some s) : ∃ b, Ev (fun q => parterreref08_first.f q l0 (r : Int) (c : Int)) b ∧ (b = true ↔ firstP l0 r c s) := by
 obtain ⟨b, hb, hiff⟩ := first_l1 h hs _ 0 0 (Nat.le_refl _) (by omega) (by omega) (fun _ => by omega) (fun i' k' hb => by unfold before at hb; omega)
 refine ⟨b, ?_, hiff⟩
 simp only [parterreref08_first.f]
 refine ev_step ?_
 simp only [parterreref08_first.l0]
 exact ev_pos (by omega) hb
end
/-! ### The cells ahead of a place -/
def rowAt (l0 : List (List ByteArray)) (i : Nat) : List ByteArray := l0.getD i []
def pre (l0 : List (List ByteArray)) (i k : Nat) : List (ByteArray × Int × Int) := area_boxes.cells (l0.take i) 0 ++ area_boxes.row i ((rowAt l0 i).take k) 0
theorem row_app (r : Nat) : ∀ (A B : List ByteArray) (c : Nat), area_boxes.row r (A ++ B) c = area_boxes.row r A c ++ area_boxes.row r B (c + A.length)
 | [], B, c => by simp [area_boxes.row]
 | s :: A, B, c => by
  have ih := row_app r A B (c + 1)
  have e : c + (s :: A).length = c + 1 + A.length := by simp only [List.length_cons]; omega
  rw [e, List.cons_append, show area_boxes.row r (s :: (A ++ B)) c = if s.size = 0 then area_boxes.row r (A ++ B) (c + 1) else (s, (r : Int), (c : Int)) :: area_boxes.row r (A ++ B) (c + 1) from rfl, show area_boxes.row r (s :: A) c = if s.size = 0 then area_boxes.row r A (c + 1) else (s, (r : Int), (c : Int)) :: area_boxes.row r A (c + 1) from rfl, ih]
  split <;> simp
theorem cells_app : ∀ (A B : List (List ByteArray)) (r : Nat), area_boxes.cells (A ++ B) r = area_boxes.cells A r ++ area_boxes.cells B (r + A.length)
 | [], B, r => by simp [area_boxes.cells]
 | l :: A, B, r => by
  have ih := cells_app A B (r + 1)
  have e : r + (l :: A).length = r + 1 + A.length := by simp only [List.length_cons]; omega
  rw [e, List.cons_append, area_boxes.cells, area_boxes.cells, ih, List.append_assoc]
section
variable {l0 : List (List ByteArray)} {m : Nat} {s t : ByteArray} {r c i k : Nat} {row : List ByteArray}
theorem rowAt_of (h : l0[i]? = some row) : rowAt l0 i = row := by
 unfold rowAt
 rw [List.getD_eq_getElem?_getD, h]
 rfl
theorem pre_zero : pre l0 0 0 = [] := by simp [pre, area_boxes.cells, area_boxes.row]
theorem pre_step (hrow : l0[i]? = some row) (ht : row[k]? = some t) : pre l0 i (k + 1) = pre l0 i k ++ (if t.size = 0 then [] else [(t, (i : Int), (k : Int))]) := by
 unfold pre
 have hk := (List.getElem?_eq_some_iff.1 ht).1
 rw [rowAt_of hrow, List.take_add_one, ht, row_app, List.append_assoc]
 congr 2
 have e : 0 + (row.take k).length = k := by rw [List.length_take]; omega
 rw [e]
 show area_boxes.row i [t] k = _
 rw [show area_boxes.row i [t] k = if t.size = 0 then area_boxes.row i [] (k + 1) else (t, (i : Int), (k : Int)) :: area_boxes.row i [] (k + 1) from rfl]
 rfl
theorem pre_row (hrow : l0[i]? = some row) (hk : row.length ≤ k) : pre l0 i k = pre l0 (i + 1) 0 := by
 unfold pre
 have hi := (List.getElem?_eq_some_iff.1 hrow).1
 rw [rowAt_of hrow, List.take_of_length_le hk, List.take_zero, List.take_add_one, hrow, cells_app]
 have e : 0 + (l0.take i).length = i := by rw [List.length_take]; omega
 rw [e]
 show _ = (area_boxes.cells (l0.take i) 0 ++ area_boxes.cells [row] i) ++ []
 rw [List.append_nil, show area_boxes.cells [row] i = area_boxes.row i row 0 ++ [] from rfl, List.append_nil]
theorem pre_end (hi : l0.length ≤ i) : pre l0 i 0 = area_boxes.cells l0 0 := by
 unfold pre
 rw [List.take_of_length_le hi, List.take_zero]
 simp [area_boxes.row]
theorem pre_mem (x : ByteArray × Int × Int) : x ∈ pre l0 i k ↔ ∃ i' k', before i' k' i k ∧ x.2.1 = (i' : Int) ∧ x.2.2 = (k' : Int) ∧ arAt l0 i' k' = some x.1 ∧ x.1.size ≠ 0 := by
 unfold pre
 rw [List.mem_append, ar_cells_mem, ar_row_mem]
 constructor
 ·rintro (⟨i', k', h1, h2, h3, h4⟩ | ⟨k', h1, h2, h3, h4⟩)
  ·unfold arAt at h3
   obtain ⟨l, hl, hc⟩ := Option.bind_eq_some_iff.1 h3
   rw [List.getElem?_take] at hl
   split at hl
   ·exact ⟨i', k', .inl (by assumption), by rw [h1]; omega, h2, by unfold arAt; rw [hl]; exact hc, h4⟩
   ·cases hl
  ·rw [List.getElem?_take] at h3
   split at h3
   ·refine ⟨i, k', .inr ⟨rfl, by assumption⟩, h1, by rw [h2]; omega, ?_, h4⟩
    unfold arAt
    unfold rowAt at h3
    rw [List.getD_eq_getElem?_getD] at h3
    cases hr : l0[i]? with
    | none => rw [hr] at h3; simp at h3
    | some row => rw [hr] at h3; exact h3
   ·cases h3
 ·rintro ⟨i', k', hb, h1, h2, h3, h4⟩
  unfold arAt at h3
  obtain ⟨l, hl, hc⟩ := Option.bind_eq_some_iff.1 h3
  rcases hb with hb | ⟨rfl, hb⟩
  ·exact .inl ⟨i', k', by rw [h1]; omega, h2, by unfold arAt; rw [List.getElem?_take, if_pos hb, hl]; exact hc, h4⟩
  ·refine .inr ⟨k', h1, by rw [h2]; omega, ?_, h4⟩
   rw [List.getElem?_take, if_pos hb, rowAt_of hl]
   exact hc
theorem cell_mem : (s, (i : Int), (k : Int)) ∈ area_boxes.cells l0 0 ↔ arAt l0 i k = some s ∧ s.size ≠ 0 := by
 rw [ar_cells_mem]
 constructor
 ·rintro ⟨i', k', e1, e2, e3, e4⟩
  dsimp only at e1 e2 e3 e4
  have e5 : i' = i := by omega
  have e6 : k' = k := by omega
  subst e5 e6
  exact ⟨e3, e4⟩
 ·rintro ⟨e3, e4⟩
  exact ⟨i, k, by dsimp only; omega, rfl, e3, e4⟩
def cnt (l0 : List (List ByteArray)) (s : ByteArray) (i k : Nat) : Nat := ((pre l0 i k).filter (fun x => decide (x.1 = s))).length
theorem cnt_step (hs : s.size ≠ 0) (hrow : l0[i]? = some row) (ht : row[k]? = some t) : cnt l0 s i (k + 1) = cnt l0 s i k + (if t = s then 1 else 0) := by
 unfold cnt
 rw [pre_step hrow ht, List.filter_append, List.length_append]
 congr 1
 by_cases e : t = s
 ·subst e
  rw [if_neg hs, if_pos rfl]
  simp
 ·rw [if_neg e]
  split
  ·rfl
  ·simp [e]
theorem cnt_row (hrow : l0[i]? = some row) (hk : row.length ≤ k) : cnt l0 s i k = cnt l0 s (i + 1) 0 := by
 unfold cnt
 rw [pre_row hrow hk]
theorem cnt_end (hi : l0.length ≤ i) : cnt l0 s i 0 = (arPts (area_boxes.cells l0 0) s).length := by
 unfold cnt arPts
 rw [pre_end hi, List.length_map]
theorem cnt_le (h : Rct l0 m) : cnt l0 s i k ≤ 100000 := by
 unfold cnt pre
 have h1 := cells_len 64 (l0.take i) 0 (fun l hl => by rw [h.row l (List.mem_of_mem_take hl)]; exact h.m64)
 have h2 := row_len i ((rowAt l0 i).take k) 0
 have h3 : ((rowAt l0 i).take k).length ≤ 64 := by
  rw [List.length_take]
  unfold rowAt
  rw [List.getD_eq_getElem?_getD]
  cases hr : l0[i]? with
  | none => simp
  | some row =>
   have := h.row row (List.mem_of_getElem? hr)
   have := h.m64
   simp only [Option.getD_some]
   omega
 have h4 : (l0.take i).length ≤ 64 := by
  have := h.n64
  rw [List.length_take]
  omega
 refine Nat.le_trans (List.length_filter_le _ _) ?_
 rw [List.length_append]
 omega
/-! ### fills -/
def fillsP (l0 : List (List ByteArray)) (r c : Nat) (s : ByteArray) : Prop := ∃ H W : Nat, 1 ≤ H ∧ 1 ≤ W ∧ ∀ i k, arAt l0 i k = some s ↔ (r ≤ i ∧ i < r + H) ∧ (c ≤ k ∧ k < c + W)
def ins (r c H W i k : Nat) : Prop := (r ≤ i ∧ i < r + H) ∧ (c ≤ k ∧ k < c + W)
theorem fills_l3 (h : Rct l0 m) (hs0 : s.size ≠ 0) {H W : Nat} (hH : r + H ≤ 64) (hW : c + W ≤ 64) : ∀ (d i k : Nat), (l0.length + 1 - i) * (m + 2) - k ≤ d → i < l0.length → k ≤ m → (∀ i' k', before i' k' i k → arAt l0 i' k' = some s → ins r c H W i' k') →
  ∃ b, Ev (fun q => parterreref08_fills.l3 q l0 (r : Int) (c : Int) s (W : Int) (H : Int) (cnt l0 s i k : Int) (i : Int) (k : Int)) b ∧ (b = true ↔ (∀ i' k', arAt l0 i' k' = some s → ins r c H W i' k') ∧ (arPts (area_boxes.cells l0 0) s).length = W * H)
 | d, i, k, hd, hi, hk, hp => by
  have hn := h.n64
  have hm := h.m64
  obtain ⟨row, hrow⟩ : ∃ row, l0[i]? = some row := ⟨_, List.getElem?_eq_getElem hi⟩
  have hl := h.row row (List.mem_of_getElem? hrow)
  have hc1 := cnt_le (s := s) (i := i) (k := k) h
  by_cases hkm : k < m
  ·obtain ⟨t, ht⟩ : ∃ t, row[k]? = some t := ⟨_, List.getElem?_eq_getElem (by omega)⟩
   have hat : arAt l0 i k = some t := by unfold arAt; rw [hrow]; exact ht
   have hst := cnt_step (s := s) hs0 hrow ht
   match d, hd with
   | 0, hd =>
    have : (l0.length + 1 - i) * (m + 2) ≥ m + 2 := Nat.le_mul_of_pos_left _ (by omega)
    omega
   | d + 1, hd =>
    have hpos : (l0.length + 1 - i) * (m + 2) ≥ m + 2 := Nat.le_mul_of_pos_left _ (by omega)
    by_cases het : t = s
    ·obtain rfl : s = t := het.symm
     rw [if_pos rfl] at hst
     have go : ∀ {b}, Ev (fun q => if (i : Int) < (r : Int) then (some false) else (if (i : Int) ≥ (wrap64 ((r : Int) + (H : Int))) then (some false) else (if (k : Int) < (c : Int) then (some false) else (if (k : Int) ≥ (wrap64 ((c : Int) + (W : Int))) then (some false) else (parterreref08_fills.l3 q l0 (r : Int) (c : Int) s (W : Int) (H : Int) (wrap64 ((cnt l0 s i k : Int) + 1)) (i : Int) (wrap64 ((k : Int) + 1))))))) b → Ev (fun q => parterreref08_fills.l3 q l0 (r : Int) (c : Int) s (W : Int) (H : Int) (cnt l0 s i k : Int) (i : Int) (k : Int)) b := fun {b} hb => by
      refine ev_step ?_
      simp only [parterreref08_fills.l3]
      rw [lat l0 hrow, sat row ht]
      exact ev_pos (by omega) (ev_pos (by omega) (ev_pos (by omega) (ev_pos (by omega) (ev_pos (by trivial) hb))))
     by_cases hin : ins r c H W i k
     ·obtain ⟨b, hb, hiff⟩ := fills_l3 h hs0 hH hW d i (k + 1) (by omega) hi (by omega) (fun i' k' hb he => by
       by_cases hh : i' = i ∧ k' = k
       ·obtain ⟨rfl, rfl⟩ := hh
        exact hin
       ·refine hp i' k' ?_ he
        unfold before at hb ⊢
        omega)
      refine ⟨b, go ?_, hiff⟩
      unfold ins at hin
      rw [w2 (by omega), w2 (by omega), w1 (by omega), w1 (by omega), ← hst]
      exact ev_neg (by omega) (ev_neg (by omega) (ev_neg (by omega) (ev_neg (by omega) hb)))
     ·refine ⟨false, go ?_, fun h => (by cases h), fun h => absurd (h.1 i k hat) hin⟩
      unfold ins at hin
      rw [w2 (by omega), w2 (by omega)]
      refine ev_ite (fun _ => ev_some) (fun h1 => ev_ite (fun _ => ev_some) (fun h2 => ev_ite (fun _ => ev_some) (fun h3 => ev_pos ?_ ev_some)))
      omega
    ·have hst' : cnt l0 s i (k + 1) = cnt l0 s i k := by rw [hst, if_neg het]; rfl
     obtain ⟨b, hb, hiff⟩ := fills_l3 h hs0 hH hW d i (k + 1) (by omega) hi (by omega) (fun i' k' hb he => by
      by_cases hh : i' = i ∧ k' = k
      ·obtain ⟨rfl, rfl⟩ := hh
       rw [hat] at he
       exact absurd (Option.some.inj he) het
      ·refine hp i' k' ?_ he
       unfold before at hb ⊢
       omega)
     refine ⟨b, ev_step ?_, hiff⟩
     simp only [parterreref08_fills.l3]
     rw [hst'] at hb
     rw [lat l0 hrow, sat row ht, w1 (i := k) (by omega)]
     exact ev_pos (by omega) (ev_pos (by omega) (ev_pos (by omega) (ev_pos (by omega) (ev_neg (fun e => het (toL.1 e)) hb))))
  ·have hkm' : k = m := by omega
   have hr1 := cnt_row (s := s) hrow (k := k) (by omega)
   have hp' : ∀ i' k', before i' k' (i + 1) 0 → arAt l0 i' k' = some s → ins r c H W i' k' := fun i' k' hb he => by
    refine hp i' k' ?_ he
    have := (h.at_lt he).2
    unfold before at hb ⊢
    omega
   have top : ∀ {b}, Ev (fun q => parterreref08_fills.l2 q l0 (r : Int) (c : Int) s (W : Int) (H : Int) (cnt l0 s (i + 1) 0 : Int) ((i + 1 : Nat) : Int)) b → Ev (fun q => parterreref08_fills.l3 q l0 (r : Int) (c : Int) s (W : Int) (H : Int) (cnt l0 s i k : Int) (i : Int) (k : Int)) b := fun {b} hb => by
    refine ev_step ?_
    simp only [parterreref08_fills.l3]
    rw [lat l0 hrow, w1 (i := i) (by omega), hr1]
    exact ev_pos (by omega) (ev_pos (by omega) (ev_neg (by omega) hb))
   by_cases hlast : i + 1 < l0.length
   ·match d, hd with
    | 0, hd =>
     have : (l0.length + 1 - i) * (m + 2) ≥ m + 2 := Nat.le_mul_of_pos_left _ (by omega)
     omega
    | d + 1, hd =>
     have hpos : (l0.length + 1 - i) * (m + 2) = (l0.length + 1 - (i + 1)) * (m + 2) + (m + 2) := by
      rw [← Nat.succ_mul]
      congr 1
      omega
     obtain ⟨b, hb, hiff⟩ := fills_l3 h hs0 hH hW d (i + 1) 0 (by omega) hlast (by omega) hp'
     refine ⟨b, top (ev_step ?_), hiff⟩
     simp only [parterreref08_fills.l2]
     exact ev_pos (by omega) (by simpa using hb)
   ·have hend := cnt_end (s := s) (l0 := l0) (i := i + 1) (by omega)
    have hc2 := cnt_le (s := s) (i := i + 1) (k := 0) h
    have hWH : W * H ≤ 64 * 64 := Nat.mul_le_mul (by omega) (by omega)
    refine ⟨decide ((arPts (area_boxes.cells l0 0) s).length = W * H), top (ev_step ?_), ?_⟩
    ·simp only [parterreref08_fills.l2]
     refine ev_neg (by omega) (ev_eq ?_)
     rw [hend, w64 (by rw [← Int.natCast_mul]; omega) (by rw [← Int.natCast_mul]; omega), ← Int.natCast_mul]
     by_cases e : (arPts (area_boxes.cells l0 0) s).length = W * H
     ·rw [e, decide_eq_true rfl]
      simp
     ·rw [decide_eq_false e]
      exact beq_false_of_ne (fun h => e (by omega))
    ·rw [decide_eq_true_eq]
     exact ⟨fun e => ⟨fun i' k' he => hp' i' k' (by have := (h.at_lt he).1; unfold before; omega) he, e⟩, fun e => e.2⟩
theorem fills_l0 (h : Rct l0 m) (hs : arAt l0 r c = some s) : ∀ (n w : Nat), c + w + n = m → (∀ j, j < w → arAt l0 r (c + j) = some s) → ∃ W, c + W ≤ m ∧ (∀ j, j < W → arAt l0 r (c + j) = some s) ∧ (c + W < m → arAt l0 r (c + W) ≠ some s) ∧
  ∀ {b}, Ev (fun q => parterreref08_fills.j1 q l0 (r : Int) (c : Int) s (W : Int)) b → Ev (fun q => parterreref08_fills.l0 q l0 (r : Int) (c : Int) s (w : Int)) b
 | 0, w, hn, hp => by
  obtain ⟨hr, hc⟩ := h.at_lt hs
  have h64 := h.n64
  have hm := h.m64
  obtain ⟨row, _, hrow, _, _, hl⟩ := h.at_ex hr hc
  refine ⟨w, by omega, hp, fun e => by omega, fun {b} hb => ev_step ?_⟩
  simp only [parterreref08_fills.l0]
  rw [lat l0 hrow, w2 (by omega)]
  exact ev_pos (by omega) (ev_pos (by omega) (ev_neg (by omega) hb))
 | n + 1, w, hn, hp => by
  obtain ⟨hr, hc⟩ := h.at_lt hs
  have h64 := h.n64
  have hm := h.m64
  obtain ⟨row, t, hrow, ht, hat, hl⟩ := h.at_ex (c := c + w) hr (by omega)
  by_cases het : t = s
  ·obtain rfl : s = t := het.symm
   obtain ⟨W, a1, a2, a3, a4⟩ := fills_l0 h hs n (w + 1) (by omega) (fun j hj => by
    by_cases e : j = w
    ·subst e; exact hat
    ·exact hp j (by omega))
   refine ⟨W, a1, a2, a3, fun {b} hb => ev_step ?_⟩
   simp only [parterreref08_fills.l0]
   rw [lat l0 hrow, w2 (by omega), sat row ht, w1 (by omega)]
   exact ev_pos (by omega) (ev_pos (by omega) (ev_pos (by omega) (ev_pos (by omega) (ev_pos (by trivial) (a4 hb)))))
  ·refine ⟨w, by omega, hp, fun _ e => het (by rw [hat] at e; exact Option.some.inj e), fun {b} hb => ev_step ?_⟩
   simp only [parterreref08_fills.l0]
   rw [lat l0 hrow, w2 (by omega), sat row ht]
   exact ev_pos (by omega) (ev_pos (by omega) (ev_pos (by omega) (ev_pos (by omega) (ev_neg (fun e => het (toL.1 e)) hb))))
theorem fills_l1 (h : Rct l0 m) (hs : arAt l0 r c = some s) {x8 : Int} : ∀ (n w : Nat), r + w + n = l0.length → (∀ j, j < w → arAt l0 (r + j) c = some s) → ∃ H, r + H ≤ l0.length ∧ (∀ j, j < H → arAt l0 (r + j) c = some s) ∧ (r + H < l0.length → arAt l0 (r + H) c ≠ some s) ∧
  ∀ {b}, Ev (fun q => parterreref08_fills.j3 q l0 (r : Int) (c : Int) s x8 (H : Int)) b → Ev (fun q => parterreref08_fills.l1 q l0 (r : Int) (c : Int) s x8 (w : Int)) b
 | 0, w, hn, hp => by
  obtain ⟨hr, hc⟩ := h.at_lt hs
  have h64 := h.n64
  have hm := h.m64
  refine ⟨w, by omega, hp, fun e => by omega, fun {b} hb => ev_step ?_⟩
  simp only [parterreref08_fills.l1]
  rw [w2 (by omega)]
  exact ev_neg (by omega) hb
 | n + 1, w, hn, hp => by
  obtain ⟨hr, hc⟩ := h.at_lt hs
  have h64 := h.n64
  have hm := h.m64
  obtain ⟨row, t, hrow, ht, hat, hl⟩ := h.at_ex (r := r + w) (c := c) (by omega) hc
  by_cases het : t = s
  ·obtain rfl : s = t := het.symm
   obtain ⟨H, a1, a2, a3, a4⟩ := fills_l1 h hs (x8 := x8) n (w + 1) (by omega) (fun j hj => by
    by_cases e : j = w
    ·subst e; exact hat
    ·exact hp j (by omega))
   refine ⟨H, a1, a2, a3, fun {b} hb => ev_step ?_⟩
   simp only [parterreref08_fills.l1]
   rw [w2 (by omega), lat l0 hrow, sat row ht, w1 (by omega)]
   exact ev_pos (by omega) (ev_pos (by omega) (ev_pos (by omega) (ev_pos (by omega) (ev_pos (by trivial) (a4 hb)))))
  ·refine ⟨w, by omega, hp, fun _ e => het (by rw [hat] at e; exact Option.some.inj e), fun {b} hb => ev_step ?_⟩
   simp only [parterreref08_fills.l1]
   rw [w2 (by omega), lat l0 hrow, sat row ht]
   exact ev_pos (by omega) (ev_pos (by omega) (ev_pos (by omega) (ev_pos (by omega) (ev_neg (fun e => het (toL.1 e)) hb))))
/-- The points of a name that has just a rectangle. -/
theorem pts_exact (hs0 : s.size ≠ 0) {H W : Nat} (hx : ∀ i k, arAt l0 i k = some s → ins r c H W i k) : ((∀ i k, ins r c H W i k → arAt l0 i k = some s) ↔ (arPts (area_boxes.cells l0 0) s).length = W * H) := by
 have hnd := ar_pts_nodup (ar_cells_sorted l0 0) s
 have hsub : ∀ p ∈ arPts (area_boxes.cells l0 0) s, p ∈ arRect (r : Int) (c : Int) H W := fun p hp => by
  rw [ar_pts_mem] at hp
  obtain ⟨i, k, e1, e2, e3, _⟩ := (ar_cells_mem _ _ _).1 hp
  have := hx i k e3
  unfold ins at this
  rw [ar_rect_mem]
  dsimp only at e1 e2
  omega
 constructor
 ·intro hall
  have h1 := ar_nodup_le _ _ hnd hsub
  have h2 := ar_nodup_le (arRect (r : Int) (c : Int) H W) (arPts (area_boxes.cells l0 0) s) (ar_rect_nodup _ _ _ _) (fun p hp => by
   rw [ar_rect_mem] at hp
   have hh := hall p.1.toNat p.2.toNat (by unfold ins; omega)
   rw [ar_pts_mem]
   have := (cell_mem (l0 := l0) (s := s) (i := p.1.toNat) (k := p.2.toNat)).2 ⟨hh, hs0⟩
   rw [show ((p.1.toNat : Nat) : Int) = p.1 by omega, show ((p.2.toNat : Nat) : Int) = p.2 by omega] at this
   exact this)
  rw [ar_rect_len] at h1 h2
  rw [Nat.mul_comm]
  omega
 ·intro hlen i k hin
  have := ar_cover hnd hsub (by rw [ar_rect_len, hlen, Nat.mul_comm]; exact Nat.le_refl _) ((i : Int), (k : Int)) (by rw [ar_rect_mem]; unfold ins at hin; dsimp only; omega)
  rw [ar_pts_mem] at this
  exact (cell_mem.1 this).1
theorem fills_ev (h : Rct l0 m) (hs : arAt l0 r c = some s) (hs0 : s.size ≠ 0) : ∃ b, Ev (fun q => parterreref08_fills.f q l0 (r : Int) (c : Int)) b ∧ (b = true ↔ fillsP l0 r c s) ∧ ∀ H W : Nat, (∀ i k, arAt l0 i k = some s ↔ ins r c H W i k) → 1 ≤ H → 1 ≤ W → b = true := by
 obtain ⟨hr, hc⟩ := h.at_lt hs
 have h64 := h.n64
 have hm := h.m64
 obtain ⟨row, t, hrow, ht, hat, hl⟩ := h.at_ex hr hc
 obtain rfl : s = t := Option.some.inj (hs.symm.trans hat)
 obtain ⟨W, w1', w2', w3', w4'⟩ := fills_l0 h hs (m - c) 0 (by omega) (fun j hj => by omega)
 obtain ⟨H, h1', h2', h3', h4'⟩ := fills_l1 h hs (x8 := (W : Int)) (l0.length - r) 0 (by omega) (fun j hj => by omega)
 have hW1 : 1 ≤ W := by
  rcases Nat.eq_zero_or_pos W with e | e
  ·subst e; exact absurd hs (w3' (by omega))
  ·exact e
 have hH1 : 1 ≤ H := by
  rcases Nat.eq_zero_or_pos H with e | e
  ·subst e; exact absurd hs (h3' (by omega))
  ·exact e
 obtain ⟨b, hb, hiff⟩ := fills_l3 h hs0 (H := H) (W := W) (r := r) (c := c) (by omega) (by omega) _ 0 0 (Nat.le_refl _) (by omega) (by omega) (fun i' k' hb => by unfold before at hb; omega)
 have hEv : Ev (fun q => parterreref08_fills.f q l0 (r : Int) (c : Int)) b := by
  simp only [parterreref08_fills.f]
  rw [lat l0 hrow, sat row ht]
  refine ev_pos (by omega) (ev_pos (by omega) (ev_pos (by omega) (ev_pos (by omega) (w4' (ev_step ?_)))))
  simp only [parterreref08_fills.j1]
  refine h4' (ev_step ?_)
  simp only [parterreref08_fills.j3]
  refine ev_step ?_
  simp only [parterreref08_fills.l2]
  have e0 : cnt l0 s 0 0 = 0 := by unfold cnt; rw [pre_zero]; rfl
  rw [e0] at hb
  exact ev_pos (by omega) hb
 have key : ∀ H' W' : Nat, (∀ i k, arAt l0 i k = some s ↔ ins r c H' W' i k) → 1 ≤ H' → 1 ≤ W' → H' = H ∧ W' = W := fun H' W' hx e1 e2 => by
  unfold ins at hx
  have a1 := (hx r (c + (W' - 1))).2 (by omega)
  have a2 := (hx (r + (H' - 1)) c).2 (by omega)
  have a3 := h.at_lt a1
  have a4 := h.at_lt a2
  have b1 := (hx r (c + (W - 1))).1 (w2' (W - 1) (by omega))
  have b2 := (hx (r + (H - 1)) c).1 (h2' (H - 1) (by omega))
  refine ⟨?_, ?_⟩
  ·rcases Nat.lt_or_ge H H' with hlt | hge
   ·exact absurd ((hx (r + H) c).2 (by omega)) (h3' (by omega))
   ·omega
  ·rcases Nat.lt_or_ge W W' with hlt | hge
   ·exact absurd ((hx r (c + W)).2 (by omega)) (w3' (by omega))
   ·omega
 have main : ∀ H' W' : Nat, (∀ i k, arAt l0 i k = some s ↔ ins r c H' W' i k) → 1 ≤ H' → 1 ≤ W' → b = true := fun H' W' hx e1 e2 => by
  obtain ⟨rfl, rfl⟩ := key H' W' hx e1 e2
  exact hiff.2 ⟨fun i k e => (hx i k).1 e, (pts_exact hs0 (fun i k e => (hx i k).1 e)).1 (fun i k e => (hx i k).2 e)⟩
 refine ⟨b, hEv, ⟨fun e => ?_, fun ⟨H', W', e1, e2, hx⟩ => main H' W' hx e1 e2⟩, main⟩
 obtain ⟨k1, k2⟩ := hiff.1 e
 exact ⟨H, W, hH1, hW1, fun i k => ⟨k1 i k, (pts_exact hs0 k1).2 k2 i k⟩⟩
/-! ### filled -/
theorem filled_l1 (h : Rct l0 m) : ∀ (d i k : Nat), (l0.length + 1 - i) * (m + 2) - k ≤ d → i < l0.length → k ≤ m → ∃ b, Ev (fun q => parterreref08_filled.l1 q l0 (i : Int) (k : Int)) b ∧ (b = true ↔ ∀ r c s, ¬ before r c i k → arAt l0 r c = some s → s.size ≠ 0 → firstP l0 r c s → fillsP l0 r c s)
 | d, i, k, hd, hi, hk => by
  have hn := h.n64
  have hm := h.m64
  obtain ⟨row, hrow⟩ : ∃ row, l0[i]? = some row := ⟨_, List.getElem?_eq_getElem hi⟩
  have hl := h.row row (List.mem_of_getElem? hrow)
  by_cases hkm : k < m
  ·obtain ⟨t, ht⟩ : ∃ t, row[k]? = some t := ⟨_, List.getElem?_eq_getElem (by omega)⟩
   have hat : arAt l0 i k = some t := by unfold arAt; rw [hrow]; exact ht
   match d, hd with
   | 0, hd =>
    have : (l0.length + 1 - i) * (m + 2) ≥ m + 2 := Nat.le_mul_of_pos_left _ (by omega)
    omega
   | d + 1, hd =>
    have hpos : (l0.length + 1 - i) * (m + 2) ≥ m + 2 := Nat.le_mul_of_pos_left _ (by omega)
    obtain ⟨b, hb, hiff⟩ := filled_l1 h d i (k + 1) (by omega) hi (by omega)
    have same : (t.size ≠ 0 → firstP l0 i k t → fillsP l0 i k t) → ((∀ r c s, ¬ before r c i (k + 1) → arAt l0 r c = some s → s.size ≠ 0 → firstP l0 r c s → fillsP l0 r c s) ↔ (∀ r c s, ¬ before r c i k → arAt l0 r c = some s → s.size ≠ 0 → firstP l0 r c s → fillsP l0 r c s)) := fun h0 => by
     constructor
     ·intro hh r c s hb he
      by_cases e : r = i ∧ c = k
      ·obtain ⟨rfl, rfl⟩ := e
       rw [hat] at he
       obtain rfl := Option.some.inj he
       exact h0
      ·exact hh r c s (by unfold before at hb ⊢; omega) he
     ·exact fun hh r c s hb he => hh r c s (by unfold before at hb ⊢; omega) he
    have top : ∀ {b}, Ev (fun q => if t.toList = ([] : List UInt8) then (parterreref08_filled.l1 q l0 (i : Int) (wrap64 ((k : Int) + 1))) else ((parterreref08_first.f q l0 (i : Int) (k : Int)).bind fun t273 => (if t273 = true then ((parterreref08_fills.f q l0 (i : Int) (k : Int)).bind fun t274 => (if t274 = true then (parterreref08_filled.l1 q l0 (i : Int) (wrap64 ((k : Int) + 1))) else (some false))) else (parterreref08_filled.l1 q l0 (i : Int) (wrap64 ((k : Int) + 1)))))) b → Ev (fun q => parterreref08_filled.l1 q l0 (i : Int) (k : Int)) b := fun {b} hb => by
     refine ev_step ?_
     simp only [parterreref08_filled.l1]
     rw [lat l0 hrow, sat row ht]
     exact ev_pos (by omega) (ev_pos (by omega) (ev_pos (by omega) (ev_pos (by omega) hb)))
    rw [← w1 (by omega)] at hb
    by_cases hz : t.size = 0
    ·exact ⟨b, top (ev_pos (toL0.2 hz) hb), hiff.trans (same (fun h1 => absurd hz h1))⟩
    ·obtain ⟨bf, hf, hfi⟩ := first_ev h hat
     cases bf with
     | false => exact ⟨b, top (ev_neg (fun e => hz (toL0.1 e)) (ev_bind hf (ev_neg (by decide) hb))), hiff.trans (same (fun _ h2 => by have := hfi.2 h2; cases this))⟩
     | true =>
      obtain ⟨bl, hbl, hbi, _⟩ := fills_ev h hat hz
      cases bl with
      | true => exact ⟨b, top (ev_neg (fun e => hz (toL0.1 e)) (ev_bind hf (ev_pos rfl (ev_bind hbl (ev_pos rfl hb))))), hiff.trans (same (fun _ _ => hbi.1 rfl))⟩
      | false =>
       refine ⟨false, top (ev_neg (fun e => hz (toL0.1 e)) (ev_bind hf (ev_pos rfl (ev_bind hbl (ev_neg (by decide) ev_some))))), fun e => (by cases e), fun hh => ?_⟩
       exact hbi.2 (hh i k t (by unfold before; omega) hat hz (hfi.1 rfl))
  ·have hstep : (∀ r c s, ¬ before r c (i + 1) 0 → arAt l0 r c = some s → s.size ≠ 0 → firstP l0 r c s → fillsP l0 r c s) ↔ (∀ r c s, ¬ before r c i k → arAt l0 r c = some s → s.size ≠ 0 → firstP l0 r c s → fillsP l0 r c s) := by
    constructor
    ·intro hh r c s hb he
     have := (h.at_lt he).2
     exact hh r c s (by unfold before at hb ⊢; omega) he
    ·exact fun hh r c s hb he => hh r c s (by unfold before at hb ⊢; omega) he
   have top : ∀ {b}, Ev (fun q => parterreref08_filled.l0 q l0 ((i + 1 : Nat) : Int)) b → Ev (fun q => parterreref08_filled.l1 q l0 (i : Int) (k : Int)) b := fun {b} hb => by
    refine ev_step ?_
    simp only [parterreref08_filled.l1]
    rw [lat l0 hrow, w1 (i := i) (by omega)]
    exact ev_pos (by omega) (ev_pos (by omega) (ev_neg (by omega) hb))
   by_cases hlast : i + 1 < l0.length
   ·match d, hd with
    | 0, hd =>
     have : (l0.length + 1 - i) * (m + 2) ≥ m + 2 := Nat.le_mul_of_pos_left _ (by omega)
     omega
    | d + 1, hd =>
     have hpos : (l0.length + 1 - i) * (m + 2) = (l0.length + 1 - (i + 1)) * (m + 2) + (m + 2) := by
      rw [← Nat.succ_mul]
      congr 1
      omega
     obtain ⟨b, hb, hiff⟩ := filled_l1 h d (i + 1) 0 (by omega) hlast (by omega)
     refine ⟨b, top (ev_step ?_), hiff.trans hstep⟩
     simp only [parterreref08_filled.l0]
     exact ev_pos (by omega) hb
   ·refine ⟨true, top (ev_step ?_), fun _ => hstep.1 (fun r c s hb he => ?_), fun _ => rfl⟩
    ·simp only [parterreref08_filled.l0]
     exact ev_neg (by omega) ev_some
    ·have := (h.at_lt he).1
     unfold before at hb
     omega
def filledP (l0 : List (List ByteArray)) : Prop := ∀ r c s, arAt l0 r c = some s → s.size ≠ 0 → firstP l0 r c s → fillsP l0 r c s
theorem filled_ev (h : Rct l0 m) : ∃ b, Ev (fun q => parterreref08_filled.f q l0) b ∧ (b = true ↔ filledP l0) := by
 by_cases h0 : 0 < l0.length
 ·obtain ⟨b, hb, hiff⟩ := filled_l1 h _ 0 0 (Nat.le_refl _) h0 (by omega)
  refine ⟨b, ?_, hiff.trans ⟨fun hh r c s => hh r c s (by unfold before; omega), fun hh r c s _ => hh r c s⟩⟩
  simp only [parterreref08_filled.f]
  refine ev_step ?_
  simp only [parterreref08_filled.l0]
  exact ev_pos (by omega) hb
 ·refine ⟨true, ?_, fun _ r c s he => ?_, fun _ => rfl⟩
  ·simp only [parterreref08_filled.f]
   refine ev_step ?_
   simp only [parterreref08_filled.l0]
   exact ev_neg (by omega) ev_some
  ·have := (h.at_lt he).1
   omega
end
/-- A name that stands in rows stands somewhere first. -/
theorem first_ex {l0 : List (List ByteArray)} {s : ByteArray} (hs0 : s.size ≠ 0) (hx : ∃ x ∈ area_boxes.cells l0 0, x.1 = s) : ∃ r c, arAt l0 r c = some s ∧ firstP l0 r c s := by
 obtain ⟨x, hx1, rfl⟩ := hx
 have hne : (area_boxes.cells l0 0).filter (fun y => decide (y.1 = x.1)) ≠ [] := fun e => by
  have := List.filter_eq_nil_iff.1 e x hx1
  simp at this
 have hsf := (ar_cells_sorted l0 0).filter (fun y => decide (y.1 = x.1))
 obtain ⟨y, l, hy⟩ := List.exists_cons_of_ne_nil hne
 rw [hy] at hsf
 have hym : y ∈ (area_boxes.cells l0 0).filter (fun y => decide (y.1 = x.1)) := by rw [hy]; exact List.mem_cons_self
 obtain ⟨hy1, hy2⟩ := List.mem_filter.1 hym
 have hyx : y.1 = x.1 := of_decide_eq_true hy2
 obtain ⟨r, c, e1, e2, e3, e4⟩ := (ar_cells_mem l0 0 y).1 hy1
 refine ⟨r, c, by rw [e3, hyx], fun i k hb he => ?_⟩
 have hm : (x.1, (i : Int), (k : Int)) ∈ (area_boxes.cells l0 0).filter (fun y => decide (y.1 = x.1)) := List.mem_filter.2 ⟨cell_mem.2 ⟨he, hs0⟩, by simp⟩
 rw [hy] at hm
 rcases List.mem_cons.1 hm with e | hm
 ·rw [← e] at e1 e2
  dsimp only at e1 e2
  unfold before at hb
  omega
 ·have := (List.pairwise_cons.1 hsf).1 _ hm
  unfold arLt at this
  dsimp only at this
  rw [e1, e2] at this
  unfold before at hb
  omega
theorem filled_iff {l0 : List (List ByteArray)} {m : Nat} (h : Rct l0 m) : filledP l0 ↔ fullB l0 = true := by
 have h2 : ∀ l ∈ l0, l.length ≤ 64 := fun l hl => by rw [h.row l hl]; exact h.m64
 have hv := box_inv h.n64 h2
 have hin := cells_in h.n64 h2
 have hso := ar_cells_sorted l0 0
 have hname : ∀ b ∈ (boxR l0).1, b.f0.size ≠ 0 ∧ ∃ x ∈ area_boxes.cells l0 0, x.1 = b.f0 := fun b hb => by
  have : b.f0 ∈ arFirsts (area_boxes.cells l0 0) := by
   rw [← hv.names]
   exact List.mem_map.2 ⟨b, hb, rfl⟩
  obtain ⟨x, hx, e⟩ := (ar_firsts_mem b.f0 _ _ rfl).1 this
  obtain ⟨_, _, _, _, _, e4⟩ := (ar_cells_mem l0 0 x).1 hx
  exact ⟨by rw [← e]; exact e4, x, hx, e⟩
 constructor
 ·intro hf
  refine (ar_full_iff _ _).2 (fun k b n hb hn => ?_)
  obtain ⟨z0, hx⟩ := hname b (List.mem_of_getElem? hb)
  obtain ⟨r, c, hat, hfi⟩ := first_ex z0 hx
  obtain ⟨H, W, hH, hW, hrect⟩ := hf r c b.f0 hat z0 hfi
  refine (ar_box_of_rect (hv.box k b n hb hn) hso hin (r : Int) (c : Int) (H : Int) (W : Int) (fun i k => ?_)).2.2.2.2
  constructor
  ·intro hm
   obtain ⟨i', k', e1, e2, e3, _⟩ := (ar_cells_mem _ _ _).1 hm
   dsimp only at e1 e2 e3
   have := (hrect i' k').1 e3
   omega
  ·intro hb
   have := (hrect i.toNat k.toNat).2 (by omega)
   have hm := (cell_mem (l0 := l0) (i := i.toNat) (k := k.toNat)).2 ⟨this, z0⟩
   rw [show ((i.toNat : Nat) : Int) = i by omega, show ((k.toNat : Nat) : Int) = k by omega] at hm
   exact hm
 ·intro hf r c s hat hs0 hfi
  have hm : s ∈ (boxR l0).1.map (·.f0) := by
   rw [hv.names, ar_firsts_mem s _ _ rfl]
   exact ⟨_, cell_mem.2 ⟨hat, hs0⟩, rfl⟩
  obtain ⟨b, hb, rfl⟩ := List.mem_map.1 hm
  obtain ⟨k, hk⟩ := List.mem_iff_getElem?.1 hb
  obtain ⟨n, hn⟩ : ∃ n, (boxR l0).2[k]? = some n := ⟨_, List.getElem?_eq_getElem (by rw [← hv.len]; exact (List.getElem?_eq_some_iff.1 hk).1)⟩
  have hB := hv.box k b n hk hn
  have hfull := (ar_full_iff _ _).1 hf k b n hk hn
  have dm := ar_box_dims hB hin
  have hbf := fun i k => ar_box_full hB hso hin hfull i k
  have e1 : b.f1 = (r : Int) ∧ b.f2 = (c : Int) := by
   have a1 := (hbf (r : Int) (c : Int)).1 (cell_mem.2 ⟨hat, hs0⟩)
   have a2 := (hbf b.f1 b.f2).2 (by omega)
   obtain ⟨i', k', e1, e2, e3, _⟩ := (ar_cells_mem _ _ _).1 a2
   dsimp only at e1 e2 e3
   have := mt (hfi i' k') (fun h => h e3)
   unfold before at this
   omega
  refine ⟨b.f3.toNat, b.f4.toNat, by omega, by omega, fun i k => ?_⟩
  have a1 := hbf (i : Int) (k : Int)
  rw [cell_mem] at a1
  constructor
  ·intro e
   have := a1.1 ⟨e, hs0⟩
   omega
  ·intro e
   exact (a1.2 (by omega)).1
/-! ### Good -/
section
variable {l0 : List (List ByteArray)} {r : Bool} {i : Nat}
theorem rgood_l1 {row : List ByteArray} (hrow : l0[i]? = some row) (h64 : l0.length ≤ 64) (hl : row.length ≤ 64) : ∀ (n j : Nat), j + n = row.length → ((row.drop j).all cellOk = true → Ev (fun k => parterreref08_Good.l0 k l0 ((i + 1 : Nat) : Int)) r) → Ev (fun k => parterreref08_Good.l1 k l0 (i : Int) (j : Int)) ((row.drop j).all cellOk && r)
 | 0, j, hj, h => by
  have hi := (List.getElem?_eq_some_iff.1 hrow).1
  refine ev_step ?_
  simp only [parterreref08_Good.l1]
  rw [lat l0 hrow, w1 (i := i) (by omega)]
  rw [List.drop_of_length_le (by omega)] at h ⊢
  exact ev_pos (by omega) (ev_pos (by omega) (ev_neg (by omega) (h rfl)))
 | n + 1, j, hj, h => by
  have hi := (List.getElem?_eq_some_iff.1 hrow).1
  have hlt : j < row.length := by omega
  obtain ⟨s, hs⟩ : ∃ s, row[j]? = some s := ⟨_, List.getElem?_eq_getElem hlt⟩
  have e2 : row.drop j = s :: row.drop (j + 1) := by rw [List.drop_eq_getElem_cons hlt, (List.getElem?_eq_some_iff.1 hs).2]
  refine ev_step ?_
  simp only [parterreref08_Good.l1]
  rw [lat l0 hrow, sat row hs, w1 (by omega), e2, List.all_cons]
  refine ev_pos (by omega) (ev_pos (by omega) (ev_pos (by omega) (ev_pos (by omega) (ev_bind (name_ev s) ?_))))
  cases hc : cellOk s with
  | true =>
   rw [Bool.true_and]
   exact ev_pos rfl (rgood_l1 hrow h64 hl n (j + 1) (by omega) (fun h'' => h (by rw [e2, List.all_cons, hc, h'']; rfl)))
  | false => exact ev_neg (by decide) (ev_eq rfl)
theorem rgood_l0 (h64 : l0.length ≤ 64) : ∀ (n i : Nat), i + n = l0.length → (∀ l ∈ l0.take i, rowOk (l0.headD []).length l = true) → Ev (fun k => parterreref08_Good.l0 k l0 (i : Int)) ((l0.drop i).all (rowOk (l0.headD []).length) && fullB l0)
 | 0, i, hi, hok => by
  refine ev_step ?_
  simp only [parterreref08_Good.l0]
  have hi0 : i = l0.length := by omega
  subst hi0
  rw [List.take_length] at hok
  rw [List.drop_length, List.all_nil, Bool.true_and]
  have hR : Rct l0 (min 64 (l0.headD []).length) := ⟨h64, by omega, fun l hl => by
   obtain ⟨_, a, b, _⟩ := rowOk_len (hok l hl)
   omega⟩
  obtain ⟨b, hb, hiff⟩ := filled_ev hR
  have e : b = fullB l0 := by
   have h2 := hiff.trans (filled_iff hR)
   cases b <;> cases hf : fullB l0 <;> simp_all
  subst e
  exact ev_neg (by omega) (ev_bind hb ev_some)
 | n + 1, i, hi, hok => by
  refine ev_step ?_
  simp only [parterreref08_Good.l0]
  have hlt : i < l0.length := by omega
  obtain ⟨row, hs⟩ : ∃ s, l0[i]? = some s := ⟨_, List.getElem?_eq_getElem hlt⟩
  have e2 : l0.drop i = row :: l0.drop (i + 1) := by rw [List.drop_eq_getElem_cons hlt, (List.getElem?_eq_some_iff.1 hs).2]
  have e3 : rd_L1 l0 0 = l0.headD [] := by
   unfold rd_L1
   cases l0 <;> rfl
  rw [lat l0 hs, e2, e3, List.all_cons]
  have bad : rowOk (l0.headD []).length row = false → Ev (fun k => parterreref08_Good.j1 k l0 (i : Int) true) ((rowOk (l0.headD []).length row && (l0.drop (i + 1)).all (rowOk (l0.headD []).length)) && fullB l0) := fun hb => by
   rw [hb]
   refine ev_step ?_
   simp only [parterreref08_Good.j1]
   exact ev_pos (by trivial) (ev_eq rfl)
  refine ev_pos (by omega) (ev_pos (by omega) (ev_ite (fun h1 => bad ?_) (fun h1 => ev_ite (fun h2 => bad ?_) (fun h2 => ev_pos (by omega) ?_))))
  ·unfold rowOk
   rw [decide_eq_false (by omega)]
   rfl
  ·unfold rowOk
   rw [decide_eq_false (by omega)]
   rfl
  ·by_cases h3 : row.length = (l0.headD []).length
   ·rw [show ((row.length : Int) != ((l0.headD []).length : Int)) = false by rw [h3]; simp]
    refine ev_step ?_
    simp only [parterreref08_Good.j1]
    refine ev_neg (by decide) ?_
    have hr : rowOk (l0.headD []).length row = row.all cellOk := by
     unfold rowOk
     rw [decide_eq_true ⟨by omega, by omega, h3⟩, Bool.true_and]
    have := rgood_l1 (i := i) (r := (l0.drop (i + 1)).all (rowOk (l0.headD []).length) && fullB l0) hs h64 (by omega) row.length 0 (by omega) (fun hc =>
     rgood_l0 h64 n (i + 1) (by omega) (fun l hl => by
      rw [List.take_add_one, hs] at hl
      rcases List.mem_append.1 hl with hl | hl
      ·exact hok l hl
      ·simp at hl
       subst hl
       rw [hr]
       exact hc))
    rw [List.drop_zero, ← hr] at this
    rw [Bool.and_assoc]
    exact this
   ·rw [show ((row.length : Int) != ((l0.headD []).length : Int)) = true by simp only [bne_iff_ne, ne_eq]; omega]
    refine bad ?_
    unfold rowOk
    rw [decide_eq_false (by omega)]
    rfl
end
theorem rgood_ev (l0 : List (List ByteArray)) : Ev (fun k => parterreref08_Good.f k l0) (goodB l0) := by
 simp only [parterreref08_Good.f]
 refine ev_ite (fun h => ev_eq ?_) (fun h => ?_)
 ·unfold goodB
  rw [decide_eq_false (by omega)]
  rfl
 ·have := rgood_l0 (l0 := l0) (by omega) l0.length 0 (by omega) (fun l hl => by simp at hl)
  rw [List.drop_zero] at this
  unfold goodB
  rw [decide_eq_true (by omega), Bool.true_and]
  exact this
theorem GoodA.rct {l0 : List (List ByteArray)} (h : GoodA l0) : Rct l0 (min 64 (l0.headD []).length) := ⟨h.n, by omega, fun l hl => by
 obtain ⟨_, a, b, _⟩ := h.row l hl
 omega⟩
/-! ### Rects -/
section
variable {l0 : List (List ByteArray)} {m : Nat} {out : List S28}
/-- The rectangle of a name. -/
def boxOf (out : List S28) (s : ByteArray) : S28 := (out.find? (fun b => decide (b.f0 = s))).getD ⟨s, 0, 0, 0, 0⟩
theorem boxOf_mem {b : S28} : ∀ {out : List S28}, (out.map (·.f0)).Nodup → b ∈ out → boxOf out b.f0 = b
 | [], _, h => by cases h
 | x :: out, hn, h => by
  rw [List.map_cons, List.nodup_cons] at hn
  unfold boxOf
  rw [List.find?_cons]
  rcases List.mem_cons.1 h with rfl | h
  ·simp
  ·have hne : x.f0 ≠ b.f0 := fun e => hn.1 (by rw [e]; exact List.mem_map.2 ⟨b, h, rfl⟩)
   rw [decide_eq_false hne]
   exact boxOf_mem hn.2 h
theorem boxOf_all (hn : (out.map (·.f0)).Nodup) : (out.map (·.f0)).map (boxOf out) = out := by
 rw [List.map_map]
 conv => rhs; rw [← List.map_id out]
 exact List.map_congr_left (fun b hb => boxOf_mem hn hb)
/-- What is told ahead of a place. -/
noncomputable def told (l0 : List (List ByteArray)) (out : List S28) (i k : Nat) : List S28 := (arFirsts (pre l0 i k)).map (boxOf out)
theorem told_len (h : Rct l0 m) (i k : Nat) : (told l0 out i k).length ≤ 100000 := by
 unfold told
 rw [List.length_map]
 refine Nat.le_trans (firsts_len _) ?_
 unfold pre
 have h1 := cells_len 64 (l0.take i) 0 (fun l hl => by rw [h.row l (List.mem_of_mem_take hl)]; exact h.m64)
 have h2 := row_len i ((rowAt l0 i).take k) 0
 have h3 : ((rowAt l0 i).take k).length ≤ 64 := by
  rw [List.length_take]
  unfold rowAt
  rw [List.getD_eq_getElem?_getD]
  cases hr : l0[i]? with
  | none => simp
  | some row =>
   have := h.row row (List.mem_of_getElem? hr)
   have := h.m64
   simp only [Option.getD_some]
   omega
 have h4 : (l0.take i).length ≤ 64 := by
  have := h.n64
  rw [List.length_take]
  omega
 rw [List.length_append]
 omega
open Classical in
theorem told_step {i k : Nat} {row : List ByteArray} {t : ByteArray} (hrow : l0[i]? = some row) (ht : row[k]? = some t) : told l0 out i (k + 1) = if t.size = 0 ∨ ¬ firstP l0 i k t then told l0 out i k else told l0 out i k ++ [boxOf out t] := by
 unfold told
 rw [pre_step hrow ht]
 by_cases hz : t.size = 0
 ·rw [if_pos hz, if_pos (.inl hz), List.append_nil]
 ·rw [if_neg hz, ar_firsts_snoc]
  have hm : t ∈ arFirsts (pre l0 i k) ↔ ¬ firstP l0 i k t := by
   rw [ar_firsts_mem t _ _ rfl]
   constructor
   ·rintro ⟨x, hx, rfl⟩ hf
    obtain ⟨i', k', hb, _, _, he, _⟩ := (pre_mem x).1 hx
    exact hf i' k' hb he
   ·intro hf
    apply Classical.byContradiction
    intro hno
    refine hf (fun i' k' hb he => hno ⟨(t, (i' : Int), (k' : Int)), (pre_mem _).2 ⟨i', k', hb, rfl, rfl, he, hz⟩, rfl⟩)
  by_cases hf : firstP l0 i k t
  ·rw [if_neg (fun h => (hm.1 h) hf), if_neg (fun h => h.elim hz (fun h => h hf)), List.map_append]
   rfl
  ·rw [if_pos (hm.2 hf), if_pos (.inr hf)]
theorem rects_row {s : ByteArray} {r c : Nat} {b : S28} (h : Rct l0 m) (hb0 : b.f0 = s) (hs : arAt l0 r c = some s) (hx : ∀ i k, arAt l0 i k = some s ↔ ins r c b.f3.toNat b.f4.toNat i k) (hd : 1 ≤ b.f3 ∧ 1 ≤ b.f4) (h1 : b.f1 = (r : Int)) (h2 : b.f2 = (c : Int)) {x3 res : List S28} (hl3 : x3.length ≤ 1000000)
  (hK : Ev (fun q => parterreref08_Rects.l1 q l0 (x3 ++ [b]) (r : Int) ((c + 1 : Nat) : Int)) res) : Ev (fun q => parterreref08_Rects.l2 q l0 x3 (r : Int) (c : Int) s (r : Int) (c : Int) 0 0) res := by
 obtain ⟨hr, hc⟩ := h.at_lt hs
 have h64 := h.n64
 have hm := h.m64
 unfold ins at hx
 have q1 := (hx r (c + (b.f4.toNat - 1))).2 (by omega)
 have q2 := (hx (r + (b.f3.toNat - 1)) c).2 (by omega)
 have q3 := (h.at_lt q1).2
 have q4 := (h.at_lt q2).1
 -- the rows
 have L3 : ∀ (n w : Nat), w + n = b.f3.toNat → Ev (fun q => parterreref08_Rects.l3 q l0 x3 (r : Int) (c : Int) s (r : Int) (c : Int) (w : Int) b.f4) res := by
  intro n
  induction n with
  | zero =>
   intro w hw
   refine ev_step ?_
   simp only [parterreref08_Rects.l3]
   rw [w2 (by omega), w1 (i := c) (by omega)]
   have eb : (⟨s, (r : Int), (c : Int), (w : Int), b.f4⟩ : S28) = b := by
    obtain ⟨f0, f1, f2, f3, f4⟩ := b
    dsimp only at hb0 h1 h2 hw hd
    subst hb0 h1 h2
    congr 1
    omega
   rw [eb]
   by_cases e : r + w < l0.length
   ·obtain ⟨row, t, hrow, ht, hat, hl⟩ := h.at_ex (r := r + w) (c := c) e hc
    rw [lat l0 hrow, sat row ht]
    have hne : t ≠ s := fun e2 => by
     rw [e2] at hat
     have := (hx (r + w) c).1 hat
     omega
    exact ev_pos (by omega) (ev_pos (by omega) (ev_pos (by omega) (ev_pos (by omega) (ev_neg (fun e => hne (toL.1 e)) (ev_pos (by omega) hK)))))
   ·exact ev_neg (by omega) (ev_pos (by omega) hK)
  | succ n ih =>
   intro w hw
   refine ev_step ?_
   simp only [parterreref08_Rects.l3]
   rw [w2 (by omega)]
   have hat := (hx (r + w) c).2 (by omega)
   have hlt := (h.at_lt hat).1
   obtain ⟨row, t, hrow, ht, hat2, hl⟩ := h.at_ex (r := r + w) (c := c) hlt hc
   obtain rfl : s = t := Option.some.inj (hat.symm.trans hat2)
   rw [lat l0 hrow, sat row ht, w1 (by omega)]
   exact ev_pos (by omega) (ev_pos (by omega) (ev_pos (by omega) (ev_pos (by omega) (ev_pos (by trivial) (ih (w + 1) (by omega))))))
 have L2 : ∀ (n w : Nat), w + n = b.f4.toNat → Ev (fun q => parterreref08_Rects.l2 q l0 x3 (r : Int) (c : Int) s (r : Int) (c : Int) 0 (w : Int)) res := by
  obtain ⟨row, _, hrow, _, _, hl⟩ := h.at_ex hr hc
  intro n
  induction n with
  | zero =>
   intro w hw
   have hj : Ev (fun q => parterreref08_Rects.j4 q l0 x3 (r : Int) (c : Int) s (r : Int) (c : Int) 0 (w : Int)) res := by
    refine ev_step ?_
    simp only [parterreref08_Rects.j4]
    have := L3 b.f3.toNat 0 (by omega)
    rw [show ((w : Nat) : Int) = b.f4 by omega]
    simpa using this
   refine ev_step ?_
   simp only [parterreref08_Rects.l2]
   rw [lat l0 hrow, w2 (by omega)]
   by_cases e : c + w < m
   ·obtain ⟨row2, t, hrow2, ht, hat, hl2⟩ := h.at_ex (r := r) (c := c + w) hr e
    rw [hrow] at hrow2
    obtain rfl := Option.some.inj hrow2
    rw [sat row ht]
    have hne : t ≠ s := fun e2 => by
     rw [e2] at hat
     have := (hx r (c + w)).1 hat
     omega
    exact ev_pos (by omega) (ev_pos (by omega) (ev_pos (by omega) (ev_pos (by omega) (ev_neg (fun e => hne (toL.1 e)) hj))))
   ·exact ev_pos (by omega) (ev_pos (by omega) (ev_neg (by omega) hj))
  | succ n ih =>
   intro w hw
   refine ev_step ?_
   simp only [parterreref08_Rects.l2]
   have hat := (hx r (c + w)).2 (by omega)
   have hlt := (h.at_lt hat).2
   obtain ⟨row2, t, hrow2, ht, hat2, hl2⟩ := h.at_ex (r := r) (c := c + w) hr hlt
   rw [hrow] at hrow2
   obtain rfl := Option.some.inj hrow2
   obtain rfl : s = t := Option.some.inj (hat.symm.trans hat2)
   rw [lat l0 hrow, w2 (by omega), sat row ht, w1 (by omega)]
   exact ev_pos (by omega) (ev_pos (by omega) (ev_pos (by omega) (ev_pos (by omega) (ev_pos (by trivial) (ih (w + 1) (by omega))))))
 have := L2 b.f4.toNat 0 (by omega)
 simpa using this
theorem rects_l1 (h : Rct l0 m) (hg : GoodA l0) : ∀ (d i k : Nat), (l0.length + 1 - i) * (m + 2) - k ≤ d → i < l0.length → k ≤ m → Ev (fun q => parterreref08_Rects.l1 q l0 (told l0 (boxR l0).1 i k) (i : Int) (k : Int)) (boxR l0).1
 | d, i, k, hd, hi, hk => by
  have hn := h.n64
  have hm := h.m64
  have hA := areas_of hg
  obtain ⟨row, hrow⟩ : ∃ row, l0[i]? = some row := ⟨_, List.getElem?_eq_getElem hi⟩
  have hl := h.row row (List.mem_of_getElem? hrow)
  have htl := told_len (out := (boxR l0).1) h i k
  by_cases hkm : k < m
  ·obtain ⟨t, ht⟩ : ∃ t, row[k]? = some t := ⟨_, List.getElem?_eq_getElem (by omega)⟩
   have hat : arAt l0 i k = some t := by unfold arAt; rw [hrow]; exact ht
   have hst := told_step (out := (boxR l0).1) hrow ht
   match d, hd with
   | 0, hd =>
    have : (l0.length + 1 - i) * (m + 2) ≥ m + 2 := Nat.le_mul_of_pos_left _ (by omega)
    omega
   | d + 1, hd =>
    have hpos : (l0.length + 1 - i) * (m + 2) ≥ m + 2 := Nat.le_mul_of_pos_left _ (by omega)
    have ih := rects_l1 h hg d i (k + 1) (by omega) hi (by omega)
    refine ev_step ?_
    simp only [parterreref08_Rects.l1]
    rw [lat l0 hrow, sat row ht]
    have skip : (t.size = 0 ∨ ¬ firstP l0 i k t) → Ev (fun q => parterreref08_Rects.j2 q l0 (told l0 (boxR l0).1 i k) (i : Int) (k : Int) true) (boxR l0).1 := fun hc => by
     refine ev_step ?_
     simp only [parterreref08_Rects.j2]
     rw [w1 (by omega)]
     rw [if_pos hc] at hst
     rw [hst] at ih
     exact ev_pos (by trivial) ih
    refine ev_pos (by omega) (ev_pos (by omega) (ev_pos (by omega) (ev_pos (by omega) (ev_ite (fun hz => skip (.inl (toL0.1 hz))) (fun hz => ?_)))))
    have hz' : t.size ≠ 0 := fun e => hz (toL0.2 e)
    obtain ⟨bf, hf, hfi⟩ := first_ev h hat
    refine ev_bind hf ?_
    cases bf with
    | false => exact skip (.inr (fun hp => by have := hfi.2 hp; cases this))
    | true =>
     have hfp := hfi.1 rfl
     rw [if_neg (fun hc => hc.elim hz' (fun h => h hfp))] at hst
     rw [hst] at ih
     refine ev_step ?_
     simp only [parterreref08_Rects.j2]
     rw [lat l0 hrow, sat row ht]
     refine ev_neg (by decide) (ev_pos (by omega) (ev_pos (by omega) (ev_pos (by omega) (ev_pos (by omega) ?_))))
     obtain ⟨b, hb, hb0⟩ := hA.all i k t hat hz'
     have eb : boxOf (boxR l0).1 t = b := by rw [← hb0]; exact boxOf_mem hA.nodup hb
     rw [eb] at ih
     have dm := hA.dims b hb
     have hh := hA.has b hb
     have hx : ∀ i' k', arAt l0 i' k' = some t ↔ inRect b (i' : Int) (k' : Int) := fun i' k' => by
      rw [hh i' k', hb0]
      exact ⟨fun e => ⟨e, hz'⟩, fun e => e.1⟩
     unfold inRect at hx
     have e1 : b.f1 = (i : Int) ∧ b.f2 = (k : Int) := by
      have a1 := (hx i k).1 hat
      have a2 := (hx b.f1.toNat b.f2.toNat).2 (by omega)
      have := mt (hfp b.f1.toNat b.f2.toNat) (fun h => h a2)
      unfold before at this
      omega
     refine rects_row h hb0 hat (fun i' k' => ?_) ⟨dm.2.2.2.2.1, dm.2.2.2.2.2.2.1⟩ e1.1 e1.2 (by omega) ih
     rw [hx i' k']
     unfold ins
     omega
  ·have htr : told l0 (boxR l0).1 i k = told l0 (boxR l0).1 (i + 1) 0 := by
    unfold told
    rw [pre_row hrow (by omega)]
   refine ev_step ?_
   simp only [parterreref08_Rects.l1]
   rw [lat l0 hrow, w1 (by omega), htr]
   refine ev_pos (by omega) (ev_pos (by omega) (ev_neg (by omega) (ev_step ?_)))
   simp only [parterreref08_Rects.l0]
   by_cases hlast : i + 1 < l0.length
   ·match d, hd with
    | 0, hd =>
     have : (l0.length + 1 - i) * (m + 2) ≥ m + 2 := Nat.le_mul_of_pos_left _ (by omega)
     omega
    | d + 1, hd =>
     have hpos : (l0.length + 1 - i) * (m + 2) = (l0.length + 1 - (i + 1)) * (m + 2) + (m + 2) := by
      rw [← Nat.succ_mul]
      congr 1
      omega
     have ih := rects_l1 h hg d (i + 1) 0 (by omega) hlast (by omega)
     exact ev_pos (by omega) ih
   ·refine ev_neg (by omega) (ev_eq ?_)
    unfold told
    rw [pre_end (by omega), ← hA.names]
    exact boxOf_all hA.nodup
theorem rrects_ev (h : goodB l0 = true) : Ev (fun k => parterreref08_Rects.f k l0) (boxR l0).1 := by
 have hg := good_of h
 have hg2 := rgood_ev l0
 rw [h] at hg2
 simp only [parterreref08_Rects.f]
 refine ev_bind hg2 (ev_pos rfl (ev_step ?_))
 simp only [parterreref08_Rects.l0]
 have ht0 : told l0 (boxR l0).1 0 0 = [] := by unfold told; rw [pre_zero]; rfl
 by_cases h0 : 0 < l0.length
 ·have := rects_l1 hg.rct hg _ 0 0 (Nat.le_refl _) h0 (by omega)
  rw [ht0] at this
  exact ev_pos (by omega) this
 ·refine ev_neg (by omega) (ev_eq ?_)
  obtain rfl : l0 = [] := List.eq_nil_of_length_eq_zero (by omega)
  rfl
theorem rrects_none (h : goodB l0 = false) : Ev (fun k => parterreref08_Rects.f k l0) [] := by
 have hg2 := rgood_ev l0
 rw [h] at hg2
 simp only [parterreref08_Rects.f]
 exact ev_bind hg2 (ev_neg (by decide) ev_some)
end
end Go.Proofs.YtofdhdafabmhmaaGreatDoor.PureAr
end
section
/- Light answers. Conditions: the argument's own kind. -/
namespace Go.Proofs.YtofdhdafabmhmaaGreatDoor.PureAr
open Go.RowKit Go.Proofs.YtofdhdafabmhmaaGreatDoorW.PrintWords Go.Proofs.YtofdhdafabmhmaaGreatDoorW.PrintMore Go.Proofs.YtofdhdafabmhmaaGreatDoor.Evs Go.Proofs.YtofdhdafabmhmaaGreatDoor.Opn Go.Proofs.YtofdhdafabmhmaaGreatDoor.PAr Go.Proofs.YtofdhdafabmhmaaGreatDoor.Giv
section
variable {l0 : List (List ByteArray)}
theorem light_l1 {i : Nat} {row : List ByteArray} (hr : row.length ≤ 9000000000000) (x3 m : Int) {b : Bool} (h : Ev (fun k => parterrelaw08_Light.l0 k x3 l0 m (wrap64 ((i : Int) + 1))) b) : ∀ (n j : Nat), j + n = row.length → ∃ b, Ev (fun k => parterrelaw08_Light.l1 k x3 l0 m (i : Int) row (row.length : Int) (j : Int)) b
 | 0, j, hj => by
  refine ⟨b, ev_step ?_⟩
  simp only [parterrelaw08_Light.l1]
  exact ev_neg (by omega) h
 | n + 1, j, hj => by
  obtain ⟨b', hb⟩ := light_l1 hr x3 m h n (j + 1) (by omega)
  by_cases hs : ((rdOf ByteArray.empty row (j : Int)).size : Int) > 200
  ·refine ⟨false, ev_step ?_⟩
   simp only [parterrelaw08_Light.l1]
   exact ev_pos (by omega) (ev_pos (by omega) (ev_pos (by omega) (ev_pos hs ev_some)))
  ·refine ⟨b', ev_step ?_⟩
   simp only [parterrelaw08_Light.l1]
   rw [w64 (by omega) (by omega)]
   exact ev_pos (by omega) (ev_pos (by omega) (ev_pos (by omega) (ev_neg hs hb)))
theorem light_l0 (h0 : l0.length ≤ 9000000000000) (h1 : ∀ row ∈ l0, row.length ≤ 9000000000000) : ∀ (n i : Nat) (x3 : Int), i + n = l0.length → ∃ b, Ev (fun k => parterrelaw08_Light.l0 k x3 l0 (l0.length : Int) (i : Int)) b
 | 0, i, x3, hi => by
  refine ⟨true, ev_step ?_⟩
  simp only [parterrelaw08_Light.l0]
  exact ev_neg (by omega) ev_some
 | n + 1, i, x3, hi => by
  obtain ⟨row, hrow⟩ : ∃ row, l0[i]? = some row := ⟨_, List.getElem?_eq_getElem (by omega)⟩
  obtain ⟨b, hb⟩ := light_l0 h0 h1 n (i + 1) (wrap64 (x3 + (1 + (mn (row.length : Int) 2000)))) (by omega)
  obtain ⟨b', hb'⟩ := light_l1 (l0 := l0) (i := i) (h1 row (List.mem_of_getElem? hrow)) (wrap64 (x3 + (1 + (mn (row.length : Int) 2000)))) (l0.length : Int) (b := b) (by rw [show wrap64 ((i : Int) + 1) = ((i + 1 : Nat) : Int) by rw [w64 (by omega) (by omega)]; omega]; exact hb) row.length 0 (by omega)
  by_cases hs : (wrap64 (x3 + (1 + (mn (row.length : Int) 2000)))) > 1500
  ·refine ⟨false, ev_step ?_⟩
   simp only [parterrelaw08_Light.l0]
   rw [lat l0 hrow]
   exact ev_pos (by omega) (ev_pos (by omega) (ev_pos (by omega) (ev_pos hs ev_some)))
  ·refine ⟨b', ev_step ?_⟩
   simp only [parterrelaw08_Light.l0]
   rw [lat l0 hrow]
   exact ev_pos (by omega) (ev_pos (by omega) (ev_pos (by omega) (ev_neg hs hb')))
theorem light_ev (g : gSl 24 (gSl 16 gStr) l0) : ∃ b, Ev (fun k => parterrelaw08_Light.f k l0) b := by
 simp only [parterrelaw08_Light.f]
 exact light_l0 (by have := g.1; omega) (fun row hr => by have := (g.2 row hr).1; omega) l0.length 0 0 (by omega)
end
end Go.Proofs.YtofdhdafabmhmaaGreatDoor.PureAr
end
section
/- AreaTells, as a statement on lists and bytes. Conditions: none beyond the arguments' own kinds. -/
namespace Go.Proofs.YtofdhdafabmhmaaGreatDoor.PureAr
open Go.RowKit Go.Proofs.YtofdhdafabmhmaaGreatDoorW.PrintWords Go.Proofs.YtofdhdafabmhmaaGreatDoorW.PrintMore Go.Proofs.YtofdhdafabmhmaaGreatDoor.Evs Go.Proofs.YtofdhdafabmhmaaGreatDoor.Opn Go.Proofs.YtofdhdafabmhmaaGreatDoor.PAr Go.Proofs.YtofdhdafabmhmaaGreatDoor.Giv
open Go
/-! ### What is written -/
def cellT (s : ByteArray) : ByteArray := if s.size = 0 then ⟨#[46]⟩ else s
def jn (l : List ByteArray) : List UInt8 := Lib.join (l.map (·.data.toList)) [32]
def rowT (row : List ByteArray) : ByteArray := T (jn (row.map cellT))
theorem jn_nil : jn [] = [] := rfl
theorem jn_one (s : ByteArray) : jn [s] = s.data.toList := Lib.join_one _ _
theorem jn_cons (s t : ByteArray) (r : List ByteArray) : jn (s :: t :: r) = s.data.toList ++ 32 :: jn (t :: r) := by
 unfold jn
 simp only [List.map_cons]
 rw [Lib.join_cons, Lib.join_cons]
 simp [Lib.joinTail]
theorem jn_len (m : Nat) : ∀ l : List ByteArray, (∀ s ∈ l, s.size ≤ m) → (jn l).length ≤ l.length * (m + 1)
 | [], _ => by simp [jn_nil]
 | [s], h => by
  have := h s List.mem_cons_self
  rw [jn_one, size_list]
  simp only [List.length_singleton]
  omega
 | s :: t :: r, h => by
  have ih := jn_len m (t :: r) (fun x hx => h x (List.mem_cons_of_mem _ hx))
  have := h s List.mem_cons_self
  rw [jn_cons, List.length_append, List.length_cons, size_list, List.length_cons, Nat.succ_mul]
  omega
theorem jn_mem (P : UInt8 → Prop) (h32 : P 32) : ∀ l : List ByteArray, (∀ s ∈ l, ∀ c ∈ s.data.toList, P c) → ∀ c ∈ jn l, P c
 | [], _, c, hc => by simp [jn_nil] at hc
 | [s], h, c, hc => by
  rw [jn_one] at hc
  exact h s List.mem_cons_self c hc
 | s :: t :: r, h, c, hc => by
  rw [jn_cons] at hc
  rcases List.mem_append.1 hc with hc | hc
  ·exact h s List.mem_cons_self c hc
  ·rcases List.mem_cons.1 hc with rfl | hc
   ·exact h32
   ·exact jn_mem P h32 (t :: r) (fun x hx => h x (List.mem_cons_of_mem _ hx)) c hc
theorem join_f {l : List ByteArray} (h1 : l.length ≤ 1000000) (h2 : (jn l).length ≤ 10000000) : strings_Join.f l (⟨#[32]⟩ : ByteArray) = some (T (jn l)) := by
 unfold strings_Join.f
 rw [if_pos ⟨by omega, by show (jn l).length ≤ _; omega⟩]
 rfl
/-- A cell that may stand in rows. -/
def CellA (s : ByteArray) : Prop := s.size ≤ 64 ∧ ∀ c ∈ s.data.toList, inB c = true
theorem empty_of {s : ByteArray} (h : s.size = 0) : s = (⟨#[]⟩ : ByteArray) := by
 obtain ⟨d⟩ := s
 obtain rfl : d = #[] := Array.size_eq_zero_iff.1 h
 rfl
theorem cellT_ok {s : ByteArray} (h : CellA s) : (cellT s).size ≤ 64 ∧ ∀ c ∈ (cellT s).data.toList, c ≠ 0 := by
 unfold cellT
 split
 ·exact ⟨by decide, by decide⟩
 ·exact ⟨h.1, fun c hc => (toldA c).zero (h.2 c hc)⟩
theorem rowT_ok {row : List ByteArray} (h : ∀ s ∈ row, CellA s) (hl : row.length ≤ 64) : (rowT row).size ≤ 4160 ∧ ∀ c ∈ (rowT row).data.toList, c ≠ 0 := by
 unfold rowT
 rw [T_list, T_size]
 have h1 : ∀ s ∈ row.map cellT, s.size ≤ 64 := fun s hs => by
  obtain ⟨t, ht, rfl⟩ := List.mem_map.1 hs
  exact (cellT_ok (h t ht)).1
 have h2 := jn_len 64 (row.map cellT) h1
 rw [List.length_map] at h2
 refine ⟨by omega, jn_mem (· ≠ 0) (by decide) _ (fun s hs c hc => ?_)⟩
 obtain ⟨t, ht, rfl⟩ := List.mem_map.1 hs
 exact (cellT_ok (h t ht)).2 c hc
/-! ### Quoted: plain bytes stand as they are -/
def plB (c : UInt8) : Prop := inB c = true ∨ c = 32 ∨ c = 46
def fineQ (n : Nat) : Bool := (area_inner.f (n : Int) != some true && (n != 32 && n != 46)) || (ident_control.f (n : Int) == some false && ((ident_escaped.f (n : Int)).isSome && (n != 34 && (n != 92 && (n != 0 && parterreref04_control.f (n : Int) == some false)))))
theorem fineQ_all : (List.range 256).all fineQ = true := by decide +kernel
structure ToldQ (c : UInt8) : Prop where
 ctl : ident_control.f (c.toNat : Int) = some false
 esc : ∃ e, ident_escaped.f (c.toNat : Int) = some e
 q : ¬ (c.toNat : Int) = 34
 b : ¬ (c.toNat : Int) = 92
 z : c ≠ 0
 rctl : parterreref04_control.f (c.toNat : Int) = some false
theorem toldQ {c : UInt8} (h : plB c) : ToldQ c := by
 have g := List.all_eq_true.1 fineQ_all c.toNat (List.mem_range.2 c.toNat_lt)
 simp only [fineQ, Bool.or_eq_true, Bool.and_eq_true, beq_iff_eq, bne_iff_ne] at g
 have g2 := g.resolve_left (fun ⟨a1, a2, a3⟩ => by
  rcases h with h | rfl | rfl
  ·exact a1 (by rw [(toldA c).inn, h])
  ·exact a2 rfl
  ·exact a3 rfl)
 obtain ⟨a1, a2, a3, a4, a5, a6⟩ := g2
 exact ⟨a1, Option.isSome_iff_exists.1 a2, by omega, by omega, fun e => a5 (by rw [e]; rfl), a6⟩
theorem bt_l {s : ByteArray} {i : Nat} {c : UInt8} (h : s.data.toList[i]? = some c) : i < s.size ∧ bt s (i : Int) = (c.toNat : Int) := by
 obtain ⟨h1, h2⟩ := List.getElem?_eq_some_iff.1 h
 rw [size_list] at h1
 refine ⟨h1, ?_⟩
 rw [← bt_at s (i : Int) (by simpa using h1), ← h2]
 simp
 rfl
theorem sub_l {s : ByteArray} {i : Nat} {c : UInt8} (hs : s.size ≤ 1000000) (h : s.data.toList[i]? = some c) : s.extract i (i + 1) = T [c] := by
 apply Go.WideShapes.bytes_inj
 obtain ⟨h1, h2⟩ := List.getElem?_eq_some_iff.1 h
 rw [ByteArray.data_extract, Array.toList_extract, List.extract_eq_take_drop, T_list, (by omega : i + 1 - i = 1), List.drop_eq_getElem_cons h1, h2]
 rfl
theorem cat_l {s : ByteArray} (hs : s.size ≤ 1000000) (hp : ∀ c ∈ s.data.toList, plB c) : ∀ n, n ≤ s.size → ident_Quote.cat s n = some (s.data.toList.take n)
 | 0, _ => rfl
 | n + 1, hn => by
  obtain ⟨c, hc⟩ : ∃ c, s.data.toList[n]? = some c := ⟨_, List.getElem?_eq_getElem (by rw [size_list]; omega)⟩
  have tq := toldQ (hp c (List.mem_of_getElem? hc))
  obtain ⟨e, he⟩ := tq.esc
  have h1 : ident_Quote.one s n = some (T [c]) := by
   unfold ident_Quote.one
   rw [(bt_l hc).2, tq.ctl, he]
   show some (if false = true then e else _) = _
   rw [if_neg (by decide), if_neg tq.q, if_neg tq.b]
   unfold ident_Quote.sub
   rw [w64 (by omega) (by omega), (by omega : ((n : Int) + 1).toNat = n + 1), Int.toNat_natCast, sub_l hs hc]
  show (ident_Quote.cat s n).bind _ = _
  rw [cat_l hs hp n (by omega), Option.bind_some, h1, Option.bind_some, if_pos (by rw [T_size]; simp), T_list, List.take_add_one, hc]
  rfl
def quo (s : ByteArray) : ByteArray := T (34 :: (s.data.toList ++ [34]))
theorem quo_size (s : ByteArray) : (quo s).size = s.size + 2 := by
 unfold quo
 rw [T_size, List.length_cons, List.length_append, size_list]
 rfl
theorem quote_i {s : ByteArray} (hs : s.size ≤ 8192) (hp : ∀ c ∈ s.data.toList, plB c) : ident_Quote.f s = some (quo s) := by
 unfold ident_Quote.f
 rw [if_neg (by omega)]
 show (if Lib.indexByte s.data.toList 0 ≥ 0 then some (⟨#[]⟩ : ByteArray) else (ident_Quote.cat s s.size).bind fun l => some (((⟨#[34]⟩ : ByteArray) ++ ⟨l.toArray⟩) ++ (⟨#[34]⟩ : ByteArray))) = _
 rw [if_neg (fun hz => by
  obtain ⟨o, ho⟩ := Int.eq_ofNat_of_zero_le hz
  obtain ⟨h4, _⟩ := Lib.indexByte_some ho
  exact (toldQ (hp 0 (List.mem_of_getElem? h4))).z rfl), cat_l (by omega) hp s.size (Nat.le_refl _), ← size_list, List.take_length]
 refine congrArg some ?_
 apply Go.WideShapes.bytes_inj
 unfold quo
 rw [T_list]
 simp
theorem nought_l {s : ByteArray} (hs : s.size ≤ 1000000) (hp : ∀ c ∈ s.data.toList, plB c) : ∀ (l : List UInt8) (n : Nat), Dr s n l → Ev (fun k => parterreref04_nought.l0 k s (n : Int)) false
 | [], n, h => by
  refine ev_step ?_
  simp only [parterreref04_nought.l0]
  have := h.nil
  exact ev_neg (by omega) ev_some
 | c :: l, n, h => by
  obtain ⟨h1, h2⟩ := h.get
  have hz := (toldQ (hp c (by rw [← List.take_append_drop n s.data.toList, h.1]; simp))).z
  refine ev_step ?_
  simp only [parterreref04_nought.l0]
  rw [h2, w1 (by omega)]
  refine ev_pos (by omega) (ev_pos (by omega) (ev_neg (fun e => hz ?_) (nought_l hs hp l (n + 1) h.tail)))
  apply UInt8.toNat.inj
  have : c.toNat = 0 := by omega
  rw [this]
  rfl
theorem quote_l {s : ByteArray} (hs : s.size ≤ 8192) (hp : ∀ c ∈ s.data.toList, plB c) : ∀ (l : List UInt8) (n : Nat), Dr s n l → Ev (fun k => parterreref04_Quote.l0 k s (T (34 :: s.data.toList.take n)) (n : Int)) (quo s)
 | [], n, h => by
  refine ev_step ?_
  simp only [parterreref04_Quote.l0]
  have hn := h.nil
  subst hn
  rw [← size_list, List.take_length, size_list]
  refine ev_neg (by omega) (ev_pos (by rw [T_size, List.length_cons, size_list]; omega) (ev_eq ?_))
  apply Go.WideShapes.bytes_inj
  unfold quo
  rw [T_list]
  simp [T]
 | c :: l, n, h => by
  obtain ⟨h1, h2⟩ := h.get
  have hc : s.data.toList[n]? = some c := by
   have := congrArg (fun z => z[0]?) h.1
   simpa using this
  have tq := toldQ (hp c (List.mem_of_getElem? hc))
  have ih := quote_l hs hp l (n + 1) h.tail
  have hz : (T (34 :: s.data.toList.take n)).size ≤ 8193 := by rw [T_size, List.length_cons, List.length_take, size_list]; omega
  refine ev_step ?_
  simp only [parterreref04_Quote.l0]
  rw [h2, w1 (i := n) (by omega)]
  simp only [Int.toNat_natCast]
  rw [sub_l (by omega) hc]
  have e : T (34 :: s.data.toList.take n) ++ T [c] = T (34 :: s.data.toList.take (n + 1)) := by
   apply Go.WideShapes.bytes_inj
   rw [ByteArray.data_append, Array.toList_append, T_list, T_list, T_list, List.take_add_one, hc]
   rfl
  rw [e]
  exact ev_pos (by omega) (ev_pos (by omega) (ev_bindc tq.rctl (ev_neg (by decide) (ev_neg tq.q (ev_neg tq.b (ev_pos (by omega) (ev_pos (by omega) (ev_pos (by rw [T_size (l := [c])]; simp only [List.length_singleton]; omega) ih))))))))
theorem quote_r {s : ByteArray} (hs : s.size ≤ 8192) (hp : ∀ c ∈ s.data.toList, plB c) : Ev (fun k => parterreref04_Quote.f k s) (quo s) := by
 simp only [parterreref04_Quote.f, parterreref04_nought.f]
 refine ev_neg (by omega) (ev_bind (nought_l (by omega) hp _ 0 (Dr.all s)) (ev_step ?_))
 simp only [parterreref04_Quote.j0]
 have := quote_l hs hp _ 0 (Dr.all s)
 exact ev_neg (by decide) this
theorem rowT_pl {row : List ByteArray} (h : ∀ s ∈ row, CellA s) : ∀ c ∈ (rowT row).data.toList, plB c := by
 unfold rowT
 rw [T_list]
 refine jn_mem plB (.inr (.inl rfl)) _ (fun s hs c hc => ?_)
 obtain ⟨t, ht, rfl⟩ := List.mem_map.1 hs
 unfold cellT at hc
 split at hc
 ·simp at hc
  exact .inr (.inr hc)
 ·exact .inl ((h t ht).2 c hc)
def rowQ (row : List ByteArray) : ByteArray := quo (rowT row)
def textA (l0 : List (List ByteArray)) : ByteArray := T (jn (l0.map rowQ))
theorem rowQ_len {row : List ByteArray} (h : ∀ s ∈ row, CellA s) (hl : row.length ≤ 64) : (rowQ row).size ≤ 4162 := by
 obtain ⟨h1, h2⟩ := rowT_ok h hl
 unfold rowQ
 rw [quo_size]
 omega
theorem rows_len {l0 : List (List ByteArray)} (hg : GoodA l0) (i : Nat) : (jn ((l0.take i).map rowQ)).length ≤ 1000000 := by
 have h1 : ∀ s ∈ (l0.take i).map rowQ, s.size ≤ 4162 := fun s hs => by
  obtain ⟨row, hr, rfl⟩ := List.mem_map.1 hs
  have hr := List.mem_of_mem_take hr
  exact rowQ_len (fun s hs => (hg.row row hr).2.2.2 s hs) (hg.row row hr).2.1
 have h2 := jn_len 4162 ((l0.take i).map rowQ) h1
 rw [List.length_map, List.length_take] at h2
 have h3 := hg.n
 have h4 : min i l0.length * (4162 + 1) ≤ 64 * (4162 + 1) := Nat.mul_le_mul (by omega) (Nat.le_refl _)
 omega
theorem textA_len {l0 : List (List ByteArray)} (hg : GoodA l0) : (jn (l0.map rowQ)).length ≤ 10000000 := by
 have := rows_len hg l0.length
 rw [List.take_length] at this
 omega
/-! ### area.Text -/
section
variable {l0 : List (List ByteArray)} {x3 : List ByteArray} {r : ByteArray} {i : Nat}
theorem text_l1 {row : List ByteArray} (h : ∀ s ∈ row, CellA s) (hl : row.length ≤ 64) (h3 : x3.length ≤ 1000000) (hK : Ev (fun k => area_Text.l0 k (x3 ++ [rowQ row]) l0 (l0.length : Int) (wrap64 ((i : Int) + 1))) r) :
  ∀ (n j : Nat), j + n = row.length → Ev (fun k => area_Text.l1 k x3 ((row.take j).map cellT) l0 (l0.length : Int) (i : Int) row (row.length : Int) (j : Int)) r
 | 0, j, hj => by
  refine ev_step ?_
  simp only [area_Text.l1]
  rw [List.take_of_length_le (by omega)]
  obtain ⟨k1, k2⟩ := rowT_ok h hl
  have k3 : (jn (row.map cellT)).length ≤ 4160 := by rw [← T_size]; exact k1
  refine ev_neg (by omega) (ev_bindc (join_f (by rw [List.length_map]; omega) (by omega)) (ev_bindc (quote_i (s := rowT row) (by omega) (rowT_pl h)) (ev_pos (by omega) hK)))
 | n + 1, j, hj => by
  refine ev_step ?_
  simp only [area_Text.l1]
  obtain ⟨s, hs⟩ : ∃ s, row[j]? = some s := ⟨_, List.getElem?_eq_getElem (by omega)⟩
  have ih := text_l1 h hl h3 hK n (j + 1) (by omega)
  rw [List.take_add_one, hs, List.map_append] at ih
  have hlt : ((row.take j).map cellT).length ≤ 64 := by rw [List.length_map, List.length_take]; omega
  rw [sat row hs, w64 (by omega) (by omega)]
  refine ev_pos (by omega) (ev_pos (by omega) (ev_pos (by omega) (ev_ite (fun hz => ev_pos (by omega) ?_) (fun hz => ev_pos (by omega) ?_))))
  ·rw [ByteArray.toList_eq] at hz
   have e : cellT s = ⟨#[46]⟩ := by
    unfold cellT
    rw [if_pos (by rw [← size_list, hz]; rfl)]
   have : Option.toList (some s) = [s] := rfl
   rw [this, List.map_singleton, e] at ih
   simpa using ih
  ·rw [ByteArray.toList_eq] at hz
   have e : cellT s = s := by
    unfold cellT
    rw [if_neg (fun e => hz (by apply List.eq_nil_of_length_eq_zero; rw [size_list]; exact e))]
   have : Option.toList (some s) = [s] := rfl
   rw [this, List.map_singleton, e] at ih
   simpa using ih
theorem text_l0 (hg : GoodA l0) (hz : (jn (l0.map rowQ)).length ≤ 10000000) : ∀ (n i : Nat), i + n = l0.length → Ev (fun k => area_Text.l0 k ((l0.take i).map rowQ) l0 (l0.length : Int) (i : Int)) (textA l0)
 | 0, i, hi => by
  refine ev_step ?_
  simp only [area_Text.l0]
  rw [List.take_of_length_le (by omega)]
  have := hg.n
  exact ev_neg (by omega) (ev_bindc (join_f (by rw [List.length_map]; omega) hz) ev_some)
 | n + 1, i, hi => by
  refine ev_step ?_
  simp only [area_Text.l0]
  obtain ⟨row, hrow⟩ : ∃ row, l0[i]? = some row := ⟨_, List.getElem?_eq_getElem (by omega)⟩
  have hr := hg.row row (List.mem_of_getElem? hrow)
  have hn := hg.n
  have ih := text_l0 hg hz n (i + 1) (by omega)
  rw [List.take_add_one, hrow, List.map_append] at ih
  rw [lat l0 hrow]
  refine ev_pos (by omega) (ev_pos (by omega) (ev_pos (by omega) ?_))
  have := text_l1 (l0 := l0) (i := i) (x3 := (l0.take i).map rowQ) (fun s hs => hr.2.2.2 s hs) hr.2.1 (by rw [List.length_map, List.length_take]; omega) (by rw [w64 (by omega) (by omega)]; exact ih) row.length 0 (by omega)
  simpa using this
end
theorem text_ev {l0 : List (List ByteArray)} (h : goodB l0 = true) (h0 : l0 ≠ []) (hz : (jn (l0.map rowQ)).length ≤ 10000000) : Ev (fun k => area_Text.f k l0) (textA l0) := by
 simp only [area_Text.f]
 have hg := good_ev l0
 rw [h] at hg
 have hl := List.length_pos_iff.2 h0
 refine ev_neg (by omega) (ev_bind hg (ev_pos rfl ?_))
 have := text_l0 (good_of h) hz l0.length 0 (by omega)
 simpa using this

/-! ### The document's Text -/
theorem jn_snoc : ∀ (l : List ByteArray) (s : ByteArray), l ≠ [] → jn (l ++ [s]) = jn l ++ 32 :: s.data.toList
 | [], s, h => absurd rfl h
 | [x], s, _ => by
  rw [List.singleton_append, jn_cons, jn_one, jn_one]
 | x :: y :: l, s, _ => by
  have ih := jn_snoc (y :: l) s (by simp)
  rw [List.cons_append, List.cons_append, jn_cons, ← List.cons_append, ih, jn_cons]
  simp
section
variable {l0 : List (List ByteArray)} {x3 : ByteArray} {r : ByteArray} {i : Nat}
theorem app_l (a b : ByteArray) : (a ++ b).data.toList = a.data.toList ++ b.data.toList := by simp
theorem T_app (A : List UInt8) (s : ByteArray) : T A ++ s = T (A ++ s.data.toList) := by
 apply Go.WideShapes.bytes_inj
 rw [app_l, T_list, T_list]
theorem rtext_l1 {row : List ByteArray} (hrow : l0[i]? = some row) (hi64 : l0.length ≤ 64) (h : ∀ s ∈ row, CellA s) (hl : row.length ≤ 64)
  (hK : Ev (fun k => if (i : Int) > 0 then (if x3.size + 1 ≤ 9223372036854775807 then ((parterreref04_Quote.f k (rowT row)).bind fun t323 => (if (x3 ++ (⟨#[32]⟩ : ByteArray)).size + t323.size ≤ 9223372036854775807 then (parterreref08_Text.l0 k l0 ((x3 ++ (⟨#[32]⟩ : ByteArray)) ++ t323) (wrap64 ((i : Int) + 1))) else (none))) else (none)) else ((parterreref04_Quote.f k (rowT row)).bind fun t324 => (if x3.size + t324.size ≤ 9223372036854775807 then (parterreref08_Text.l0 k l0 (x3 ++ t324) (wrap64 ((i : Int) + 1))) else (none)))) r) :
  ∀ (n j : Nat), j + n = row.length → Ev (fun k => parterreref08_Text.l1 k l0 x3 (i : Int) (T (jn ((row.take j).map cellT))) (j : Int)) r
 | 0, j, hj => by
  have hi := (List.getElem?_eq_some_iff.1 hrow).1
  refine ev_step ?_
  simp only [parterreref08_Text.l1]
  rw [lat l0 hrow, List.take_of_length_le (by omega)]
  exact ev_pos (by omega) (ev_pos (by omega) (ev_neg (by omega) hK))
 | n + 1, j, hj => by
  have hi := (List.getElem?_eq_some_iff.1 hrow).1
  obtain ⟨s, hs⟩ : ∃ s, row[j]? = some s := ⟨_, List.getElem?_eq_getElem (by omega)⟩
  have hc := h s (List.mem_of_getElem? hs)
  have hcs := hc.1
  have ih := rtext_l1 hrow hi64 h hl hK n (j + 1) (by omega)
  have e1 : (row.take (j + 1)).map cellT = (row.take j).map cellT ++ [cellT s] := by
   rw [List.take_add_one, hs, List.map_append]
   rfl
  rw [e1] at ih
  have hz : (T (jn ((row.take j).map cellT))).size ≤ 10000 := by
   rw [T_size]
   have h1 : ∀ s ∈ (row.take j).map cellT, s.size ≤ 64 := fun s hs => by
    obtain ⟨t, ht, rfl⟩ := List.mem_map.1 hs
    exact (cellT_ok (h t (List.mem_of_mem_take ht))).1
   have h2 := jn_len 64 ((row.take j).map cellT) h1
   rw [List.length_map, List.length_take] at h2
   omega
  refine ev_step ?_
  simp only [parterreref08_Text.l1]
  rw [lat l0 hrow, sat row hs, w1 (i := j) (by omega)]
  have hp1 : (⟨#[32]⟩ : ByteArray).size = 1 := rfl
  have hp2 : (⟨#[46]⟩ : ByteArray).size = 1 := rfl
  refine ev_pos (by omega) (ev_pos (by omega) (ev_pos (by omega) (ev_ite (fun h0 => ev_pos (by omega) (ev_pos (by omega) (ev_ite (fun hz0 => ?_) (fun hz0 => ?_)))) (fun h0 => ev_pos (by omega) (ev_ite (fun hz0 => ?_) (fun hz0 => ?_))))))
  ·have hz1 := toL0.1 hz0
   have e2 : cellT s = ⟨#[46]⟩ := by unfold cellT; rw [if_pos hz1]
   have e3 : ((T (jn ((row.take j).map cellT)) ++ (⟨#[32]⟩ : ByteArray)) ++ (⟨#[46]⟩ : ByteArray)) ++ s = T (jn ((row.take j).map cellT ++ [cellT s])) := by
    rw [empty_of hz1] at e2 ⊢
    rw [jn_snoc _ _ (by intro e; have := congrArg List.length e; rw [List.length_map, List.length_take, List.length_nil] at this; omega), e2, T_app, T_app, T_app]
    simp
   rw [e3]
   exact ev_pos (by rw [ByteArray.size_append]; omega) (ev_pos (by rw [ByteArray.size_append, ByteArray.size_append]; omega) ih)
  ·have hz1 : s.size ≠ 0 := fun e => hz0 (toL0.2 e)
   have e2 : cellT s = s := by unfold cellT; rw [if_neg hz1]
   have e3 : (T (jn ((row.take j).map cellT)) ++ (⟨#[32]⟩ : ByteArray)) ++ s = T (jn ((row.take j).map cellT ++ [cellT s])) := by
    rw [jn_snoc _ _ (by intro e; have := congrArg List.length e; rw [List.length_map, List.length_take, List.length_nil] at this; omega), e2, T_app, T_app]
    simp
   rw [e3]
   exact ev_pos (by rw [ByteArray.size_append]; omega) ih
  ·have hj0 : j = 0 := by omega
   subst hj0
   have hz1 := toL0.1 hz0
   have e2 : cellT s = ⟨#[46]⟩ := by unfold cellT; rw [if_pos hz1]
   have e3 : (T (jn ((row.take 0).map cellT)) ++ (⟨#[46]⟩ : ByteArray)) ++ s = T (jn ((row.take 0).map cellT ++ [cellT s])) := by
    rw [empty_of hz1] at e2 ⊢
    rw [e2, T_app, T_app, List.take_zero, List.map_nil, List.nil_append, jn_one, jn_nil]
    simp
   rw [e3]
   exact ev_pos (by omega) (ev_pos (by rw [ByteArray.size_append]; omega) ih)
  ·have hj0 : j = 0 := by omega
   subst hj0
   have hz1 : s.size ≠ 0 := fun e => hz0 (toL0.2 e)
   have e2 : cellT s = s := by unfold cellT; rw [if_neg hz1]
   have e3 : T (jn ((row.take 0).map cellT)) ++ s = T (jn ((row.take 0).map cellT ++ [cellT s])) := by
    rw [e2, T_app, List.take_zero, List.map_nil, List.nil_append, jn_one, jn_nil]
    simp
   rw [e3]
   exact ev_pos (by omega) ih
theorem rtext_l0 (hg : GoodA l0) : ∀ (n i : Nat), i + n = l0.length → Ev (fun k => parterreref08_Text.l0 k l0 (T (jn ((l0.take i).map rowQ))) (i : Int)) (textA l0)
 | 0, i, hi => by
  refine ev_step ?_
  simp only [parterreref08_Text.l0]
  rw [List.take_of_length_le (by omega)]
  exact ev_neg (by omega) (ev_eq rfl)
 | n + 1, i, hi => by
  refine ev_step ?_
  simp only [parterreref08_Text.l0]
  obtain ⟨row, hrow⟩ : ∃ row, l0[i]? = some row := ⟨_, List.getElem?_eq_getElem (by omega)⟩
  have hr := hg.row row (List.mem_of_getElem? hrow)
  have hn := hg.n
  have hc : ∀ s ∈ row, CellA s := fun s hs => hr.2.2.2 s hs
  obtain ⟨k1, _⟩ := rowT_ok hc hr.2.1
  have hq := quote_r (s := rowT row) (by omega) (rowT_pl hc)
  have hqz := rowQ_len hc hr.2.1
  unfold rowQ at hqz
  have ih := rtext_l0 hg n (i + 1) (by omega)
  have e1 : (l0.take (i + 1)).map rowQ = (l0.take i).map rowQ ++ [rowQ row] := by
   rw [List.take_add_one, hrow, List.map_append]
   rfl
  rw [e1] at ih
  have hz : (T (jn ((l0.take i).map rowQ))).size ≤ 1000000 := by rw [T_size]; exact rows_len hg i
  have hp1 : (⟨#[32]⟩ : ByteArray).size = 1 := rfl
  have hl1 := rtext_l1 (x3 := T (jn ((l0.take i).map rowQ))) (r := textA l0) hrow hn hc hr.2.1 (by
   rw [w1 (i := i) (by omega)]
   refine ev_ite (fun h0 => ev_pos (by omega) (ev_bind hq (ev_pos (by rw [ByteArray.size_append]; omega) ?_))) (fun h0 => ev_bind hq (ev_pos (by omega) ?_))
   ·have e3 : (T (jn ((l0.take i).map rowQ)) ++ (⟨#[32]⟩ : ByteArray)) ++ quo (rowT row) = T (jn ((l0.take i).map rowQ ++ [rowQ row])) := by
     rw [jn_snoc _ _ (by intro e; have := congrArg List.length e; rw [List.length_map, List.length_take, List.length_nil] at this; omega), T_app, T_app]
     unfold rowQ
     simp
    rw [e3]
    exact ih
   ·have hi0 : i = 0 := by omega
    subst hi0
    have e3 : T (jn ((l0.take 0).map rowQ)) ++ quo (rowT row) = T (jn ((l0.take 0).map rowQ ++ [rowQ row])) := by
     rw [T_app, List.take_zero, List.map_nil, List.nil_append, jn_one, jn_nil]
     unfold rowQ
     simp
    rw [e3]
    exact ih) row.length 0 (by omega)
  exact ev_pos (by omega) hl1
theorem texts (l0 : List (List ByteArray)) : ∃ t, Ev (fun k => area_Text.f k l0) t ∧ Ev (fun k => parterreref08_Text.f k l0) t := by
 by_cases h0 : l0 = []
 ·subst h0
  refine ⟨(⟨#[110, 111, 110, 101]⟩ : ByteArray), ?_, ?_⟩
  ·simp only [area_Text.f]
   exact ev_pos (by rfl) ev_some
  ·simp only [parterreref08_Text.f]
   exact ev_pos (by rfl) ev_some
 ·have hl := List.length_pos_iff.2 h0
  cases hg : goodB l0 with
  | false =>
   have g1 := good_ev l0
   have g2 := rgood_ev l0
   rw [hg] at g1 g2
   refine ⟨⟨#[]⟩, ?_, ?_⟩
   ·simp only [area_Text.f]
    exact ev_neg (by omega) (ev_bind g1 (ev_neg (by decide) ev_some))
   ·simp only [parterreref08_Text.f]
    exact ev_neg (by omega) (ev_bind g2 (ev_neg (by decide) ev_some))
  | true =>
   have g2 := rgood_ev l0
   rw [hg] at g2
   have hG := good_of hg
   refine ⟨textA l0, text_ev hg h0 (textA_len hG), ?_⟩
   simp only [parterreref08_Text.f]
   refine ev_neg (by omega) (ev_bind g2 (ev_pos rfl ?_))
   have := rtext_l0 hG l0.length 0 (by omega)
   simpa [jn_nil, T] using this
end
/-! ### Same -/
theorem w1b {i : Nat} (h : i ≤ 9000000000000) : wrap64 ((i : Int) + 1) = ((i + 1 : Nat) : Int) := by
 rw [w64 (by omega) (by omega)]
 omega
section
variable {x y : List (List ByteArray)}
theorem same_l1 {i : Nat} {rx ry : List ByteArray} {m : Int} (hx : x[i]? = some rx) (hy : y[i]? = some ry) (hl : rx.length = ry.length) (hr : rx.length ≤ 9000000000000) (hi : i ≤ 9000000000000)
  (hK : ∃ b, Ev (fun k => area_same_string.l0 k x y m ((i + 1 : Nat) : Int)) b ∧ Ev (fun k => parterreref08_Same.l0 k x y ((i + 1 : Nat) : Int)) b ∧ (x = y → b = true)) : ∀ (n j : Nat), j + n = rx.length → ∃ b, Ev (fun k => area_same_string.l1 k x y (i : Int) m (i : Int) (rx.length : Int) (j : Int)) b ∧ Ev (fun k => parterreref08_Same.l1 k x y (i : Int) (j : Int)) b ∧ (x = y → b = true)
 | 0, j, hj => by
  have h1 := (List.getElem?_eq_some_iff.1 hx).1
  have h2 := (List.getElem?_eq_some_iff.1 hy).1
  obtain ⟨b, k1, k2, k3⟩ := hK
  refine ⟨b, ev_step ?_, ev_step ?_, k3⟩
  ·simp only [area_same_string.l1]
   rw [w1b (i := i) hi]
   exact ev_neg (by omega) k1
  ·simp only [parterreref08_Same.l1]
   rw [lat x hx, lat y hy, w1b (i := i) hi]
   exact ev_pos (by omega) (ev_pos (by omega) (ev_neg (by omega) k2))
 | n + 1, j, hj => by
  have h1 := (List.getElem?_eq_some_iff.1 hx).1
  have h2 := (List.getElem?_eq_some_iff.1 hy).1
  obtain ⟨s, hs⟩ : ∃ s, rx[j]? = some s := ⟨_, List.getElem?_eq_getElem (by omega)⟩
  obtain ⟨t, ht⟩ : ∃ t, ry[j]? = some t := ⟨_, List.getElem?_eq_getElem (by omega)⟩
  obtain ⟨b, k1, k2, k3⟩ := same_l1 hx hy hl hr hi hK n (j + 1) (by omega)
  by_cases e : s = t
  ·subst e
   refine ⟨b, ev_step ?_, ev_step ?_, k3⟩
   ·simp only [area_same_string.l1]
    rw [lat x hx, lat y hy, sat rx hs, sat ry ht, w1b (i := j) (by omega)]
    exact ev_pos (by omega) (ev_pos (by omega) (ev_pos (by omega) (ev_pos (by omega) (ev_pos (by omega) (ev_pos (by omega) (ev_pos (by omega) (ev_pos (by trivial) k1)))))))
   ·simp only [parterreref08_Same.l1]
    rw [lat x hx, lat y hy, sat rx hs, sat ry ht, w1b (i := j) (by omega)]
    exact ev_pos (by omega) (ev_pos (by omega) (ev_pos (by omega) (ev_pos (by omega) (ev_pos (by omega) (ev_pos (by omega) (ev_pos (by trivial) k2))))))
  ·refine ⟨false, ev_step ?_, ev_step ?_, fun h => absurd ?_ e⟩
   ·simp only [area_same_string.l1]
    rw [lat x hx, lat y hy, sat rx hs, sat ry ht]
    exact ev_pos (by omega) (ev_pos (by omega) (ev_pos (by omega) (ev_pos (by omega) (ev_pos (by omega) (ev_pos (by omega) (ev_pos (by omega) (ev_neg (fun h => e (toL.1 h)) ev_some)))))))
   ·simp only [parterreref08_Same.l1]
    rw [lat x hx, lat y hy, sat rx hs, sat ry ht]
    exact ev_pos (by omega) (ev_pos (by omega) (ev_pos (by omega) (ev_pos (by omega) (ev_pos (by omega) (ev_pos (by omega) (ev_neg (fun h => e (toL.1 h)) ev_some))))))
   ·subst h
    rw [hx] at hy
    obtain rfl := Option.some.inj hy
    rw [hs] at ht
    exact Option.some.inj ht
theorem same_l0 (hl : x.length = y.length) (hx : x.length ≤ 9000000000000) (hr : ∀ row ∈ x, row.length ≤ 9000000000000) : ∀ (n i : Nat), i + n = x.length → ∃ b, Ev (fun k => area_same_string.l0 k x y (x.length : Int) (i : Int)) b ∧ Ev (fun k => parterreref08_Same.l0 k x y (i : Int)) b ∧ (x = y → b = true)
 | 0, i, hi => by
  refine ⟨true, ev_step ?_, ev_step ?_, fun _ => rfl⟩
  ·simp only [area_same_string.l0]
   exact ev_neg (by omega) ev_some
  ·simp only [parterreref08_Same.l0]
   exact ev_neg (by omega) ev_some
 | n + 1, i, hi => by
  obtain ⟨rx, hx1⟩ : ∃ row, x[i]? = some row := ⟨_, List.getElem?_eq_getElem (by omega)⟩
  obtain ⟨ry, hy1⟩ : ∃ row, y[i]? = some row := ⟨_, List.getElem?_eq_getElem (by omega)⟩
  have ih := same_l0 hl hx hr n (i + 1) (by omega)
  by_cases e : rx.length = ry.length
  ·obtain ⟨b, k1, k2, k3⟩ := same_l1 hx1 hy1 e (hr rx (List.mem_of_getElem? hx1)) (by omega) ih rx.length 0 (by omega)
   refine ⟨b, ev_step ?_, ev_step ?_, k3⟩
   ·simp only [area_same_string.l0]
    rw [lat x hx1, lat y hy1]
    exact ev_pos (by omega) (ev_pos (by omega) (ev_pos (by omega) (ev_pos (by omega) (ev_pos (by omega) k1))))
   ·simp only [parterreref08_Same.l0]
    rw [lat x hx1, lat y hy1]
    exact ev_pos (by omega) (ev_pos (by omega) (ev_pos (by omega) (ev_pos (by omega) k2)))
  ·refine ⟨false, ev_step ?_, ev_step ?_, fun h => absurd ?_ e⟩
   ·simp only [area_same_string.l0]
    rw [lat x hx1, lat y hy1]
    exact ev_pos (by omega) (ev_pos (by omega) (ev_pos (by omega) (ev_pos (by omega) (ev_neg (by omega) ev_some))))
   ·simp only [parterreref08_Same.l0]
    rw [lat x hx1, lat y hy1]
    exact ev_pos (by omega) (ev_pos (by omega) (ev_pos (by omega) (ev_neg (by omega) ev_some)))
   ·subst h
    rw [hx1] at hy1
    rw [Option.some.inj hy1]
theorem sames (g : gSl 24 (gSl 16 gStr) x) : ∃ b, Ev (fun k => area_Same.f k x y) b ∧ Ev (fun k => parterreref08_Same.f k x y) b ∧ (x = y → b = true) := by
 have hx : x.length ≤ 9000000000000 := by have := g.1; omega
 have hr : ∀ row ∈ x, row.length ≤ 9000000000000 := fun row hr => by have := (g.2 row hr).1; omega
 by_cases e : x.length = y.length
 ·obtain ⟨b, k1, k2, k3⟩ := same_l0 e hx hr x.length 0 (by omega)
  refine ⟨b, ?_, ?_, k3⟩
  ·simp only [area_Same.f, area_same_string.f]
   exact ev_bind (ev_pos (by omega) k1) ev_some
  ·simp only [parterreref08_Same.f]
   exact ev_pos (by omega) k2
 ·refine ⟨false, ?_, ?_, fun h => absurd (by rw [h]) e⟩
  ·simp only [area_Same.f, area_same_string.f]
   exact ev_bind (ev_neg (by omega) ev_some) ev_some
  ·simp only [parterreref08_Same.f]
   exact ev_neg (by omega) ev_some
end
theorem rects_both (l0 : List (List ByteArray)) : ∃ out : List S28, out.length ≤ 1000000 ∧ Ev (fun k => area_Rects.f k l0) out ∧ Ev (fun k => parterreref08_Rects.f k l0) out := by
 cases hg : goodB l0 with
 | false => exact ⟨[], by simp, rects_none hg, rrects_none hg⟩
 | true =>
  have hG := good_of hg
  refine ⟨(boxR l0).1, ?_, rects_ev hg, rrects_ev hg⟩
  have h1 := cells_len 64 l0 0 (fun l hl => (hG.row l hl).2.1)
  have h2 : (boxR l0).1.length = (arFirsts (area_boxes.cells l0 0)).length := by rw [← (box_inv hG.n (fun l hl => (hG.row l hl).2.1)).names, List.length_map]
  have h3 := firsts_len (area_boxes.cells l0 0)
  have := hG.n
  omega
end Go.Proofs.YtofdhdafabmhmaaGreatDoor.PureAr
namespace Go.Proofs.YtofdhdafabmhmaaGreatDoor.Pure
open Go.RowKit Go.Proofs.YtofdhdafabmhmaaGreatDoorW.PrintWords Go.Proofs.YtofdhdafabmhmaaGreatDoorW.PrintMore Go.Proofs.YtofdhdafabmhmaaGreatDoor.Evs Go.Proofs.YtofdhdafabmhmaaGreatDoor.Opn Go.Proofs.YtofdhdafabmhmaaGreatDoor.PAr Go.Proofs.YtofdhdafabmhmaaGreatDoor.Giv Go.Proofs.YtofdhdafabmhmaaGreatDoor.PureAr
theorem tells_l0 {l0 l1 : List (List ByteArray)} {out : List S28} (ho : out.length ≤ 1000000)
  (hK : Ev (fun k => (area_Good.f k l0).bind fun t363 => ((parterreref08_Good.f k l0).bind fun t364 => (if (t363 == t364) = true then ((area_Text.f k l0).bind fun t365 => ((parterreref08_Text.f k l0).bind fun t366 => (if t365.toList = t366.toList then ((area_Same.f k l0 l1).bind fun t367 => ((parterreref08_Same.f k l0 l1).bind fun t368 => (if (t367 == t368) = true then ((area_Same.f k l0 l0).bind fun t369 => (if t369 = true then ((parterrelaw08_lives.f k).bind fun t370 => (some t370)) else (none))) else (none)))) else (none)))) else (none)))) true) :
  ∀ (n j : Nat), j + n = out.length → Ev (fun k => parterrelaw08_AreaTells.l0 k l0 l1 out out (out.length : Int) (j : Int)) true
 | 0, j, hj => by
  refine ev_step ?_
  simp only [parterrelaw08_AreaTells.l0]
  exact ev_neg (by omega) hK
 | n + 1, j, hj => by
  refine ev_step ?_
  simp only [parterrelaw08_AreaTells.l0]
  rw [w1 (by omega)]
  exact ev_pos (by omega) (ev_pos (by omega) (ev_pos (by omega) (ev_pos (by omega) (ev_neg (by simp) (tells_l0 ho hK n (j + 1) (by omega))))))
theorem AreaTells : parterrelaw08_AreaTells.Pure := by
 intro l0 l1 g g1
 refine Ev.rounds ?_
 simp only [parterrelaw08_AreaTells.f]
 obtain ⟨b, hb⟩ := light_ev g
 obtain ⟨b1, hb1⟩ := light_ev g1
 have triv : Ev (fun k => parterrelaw08_AreaTells.j0 k l0 l1 true) true := by
  refine ev_step ?_
  simp only [parterrelaw08_AreaTells.j0]
  exact ev_pos (by trivial) (ev_bind lives_ev ev_some)
 refine ev_bind hb (ev_ite (fun _ => ev_bind hb1 ?_) (fun _ => triv))
 cases b1 with
 | false => exact triv
 | true =>
  obtain ⟨out, ho, r1, r2⟩ := rects_both l0
  obtain ⟨t, t1, t2⟩ := texts l0
  obtain ⟨q, q1, q2, _⟩ := sames (y := l1) g
  obtain ⟨z, z1, _, z3⟩ := sames (y := l0) g
  obtain rfl := z3 rfl
  refine ev_step ?_
  simp only [parterrelaw08_AreaTells.j0]
  refine ev_neg (by decide) (ev_bind r1 (ev_bind r2 (ev_pos rfl (tells_l0 ho ?_ out.length 0 (by omega)))))
  exact ev_bind (good_ev l0) (ev_bind (rgood_ev l0) (ev_pos (by simp) (ev_bind t1 (ev_bind t2 (ev_pos rfl (ev_bind q1 (ev_bind q2 (ev_pos (by simp) (ev_bind z1 (ev_pos rfl (ev_bind lives_ev ev_some)))))))))))
end Go.Proofs.YtofdhdafabmhmaaGreatDoor.Pure
end
