/- The table of lines that areas make (names.Table), of up to 4096 areas. Conditions: as each theorem says. -/
import Derived.Test.YtaalmkkekbhpnaaPRax3
import Derived.Test.YtaalmkkekbhpnaaPureRsNm2
set_option linter.unusedVariables false
set_option linter.unusedSimpArgs false
namespace Go.Proofs.Ytaalmkkekbhpnaa.PureTb
open Go.RowKit Go.Proofs.YtaalmkkekbhpnaaW.PrintWords Go.Proofs.YtaalmkkekbhpnaaW.PrintMore Go.Proofs.Ytaalmkkekbhpnaa.Evs Go.Proofs.Ytaalmkkekbhpnaa.Giv Go.Proofs.Ytaalmkkekbhpnaa.Opn Go.Proofs.Ytaalmkkekbhpnaa.PRa Go.Proofs.Ytaalmkkekbhpnaa.PureRsNm
abbrev Ar := S32
def sN (a : Ar) : ByteArray := a.f0 ++ (⟨#[45, 115, 116, 97, 114, 116]⟩ : ByteArray)
def eN (a : Ar) : ByteArray := a.f0 ++ (⟨#[45, 101, 110, 100]⟩ : ByteArray)
def atA (rows : Bool) (a : Ar) : Int := if rows = true then a.f1 else a.f2
def manyA (rows : Bool) (a : Ar) : Int := if rows = true then a.f3 else a.f4
/-- What an area adds to a line. -/
def addS (rows : Bool) (a : Ar) (i : Nat) : List ByteArray := if (i : Int) = atA rows a then [sN a] else []
def addE (rows : Bool) (a : Ar) (i : Nat) : List ByteArray := if wrap64 ((i : Int) - manyA rows a) = atA rows a then [eN a] else []
def adds (rows : Bool) (i : Nat) : List Ar → List ByteArray
  | [] => []
  | a :: l => (addS rows a i ++ addE rows a i) ++ adds rows i l
theorem adds_app (rows : Bool) (i : Nat) : ∀ (a b : List Ar), adds rows i (a ++ b) = adds rows i a ++ adds rows i b
  | [], b => rfl
  | x :: a, b => by
    show (addS rows x i ++ addE rows x i) ++ adds rows i (a ++ b) = ((addS rows x i ++ addE rows x i) ++ adds rows i a) ++ adds rows i b
    rw [adds_app rows i a b]
    simp only [List.append_assoc]
theorem addS_len (rows : Bool) (a : Ar) (i : Nat) : (addS rows a i).length ≤ 1 := by
  unfold addS
  split <;> simp
theorem addE_len (rows : Bool) (a : Ar) (i : Nat) : (addE rows a i).length ≤ 1 := by
  unfold addE
  split <;> simp
theorem adds_len (rows : Bool) (i : Nat) : ∀ (l : List Ar), (adds rows i l).length ≤ 2 * l.length
  | [] => Nat.le_refl _
  | a :: l => by
    have h1 := addS_len rows a i
    have h2 := addE_len rows a i
    have h3 := adds_len rows i l
    unfold adds
    simp only [List.length_append, List.length_cons]
    omega
/-- A line, as the document says. -/
def row (t : List (List ByteArray)) (rows : Bool) (ar : List Ar) (i : Nat) : List ByteArray := lineAt t i ++ adds rows i ar
def tab (n : Nat) (F : Nat → List ByteArray) : List (List ByteArray) := (List.range n).map F
theorem tab_len (n : Nat) (F : Nat → List ByteArray) : (tab n F).length = n := by
  unfold tab
  rw [List.length_map, List.length_range]
theorem tab_at (n : Nat) (F : Nat → List ByteArray) {i : Nat} (h : i < n) : lineAt (tab n F) i = F i := by
  unfold lineAt tab
  rw [List.getD_eq_getElem?_getD, List.getElem?_map, List.getElem?_range h]
  rfl
theorem tab_congr (n : Nat) {F G : Nat → List ByteArray} (h : ∀ i, i < n → F i = G i) : tab n F = tab n G := by
  unfold tab
  apply List.map_congr_left
  intro i hi
  exact h i (List.mem_range.1 hi)
theorem tab_set (n : Nat) (F : Nat → List ByteArray) (i : Nat) (v : List ByteArray) : (tab n F).set i v = tab n (fun j => if j = i then v else F j) := by
  apply List.ext_getElem?
  intro m
  by_cases hm : m < n
  · by_cases h : i = m
    · subst h
      rw [List.getElem?_set_self (by rw [tab_len]; exact hm)]
      unfold tab
      rw [List.getElem?_map, List.getElem?_range hm]
      show some v = some (if i = i then v else F i)
      rw [if_pos rfl]
    · rw [List.getElem?_set_ne h]
      unfold tab
      rw [List.getElem?_map, List.getElem?_map, List.getElem?_range hm]
      show some (F m) = some (if m = i then v else F m)
      rw [if_neg (fun k => h k.symm)]
  · rw [List.getElem?_eq_none (by rw [List.length_set, tab_len]; omega), List.getElem?_eq_none (by rw [tab_len]; omega)]
theorem tab_snoc (n : Nat) (F : Nat → List ByteArray) : tab n F ++ [F n] = tab (n + 1) F := by
  unfold tab
  rw [List.range_succ, List.map_append]
  rfl
theorem tab_nil (n : Nat) : List.replicate n ([] : List ByteArray) = tab n (fun _ => []) := by
  apply List.ext_getElem?
  intro m
  by_cases hm : m < n
  · unfold tab
    rw [List.getElem?_replicate_of_lt hm, List.getElem?_map, List.getElem?_range hm]
    rfl
  · rw [List.getElem?_eq_none (by rw [List.length_replicate]; omega), List.getElem?_eq_none (by rw [tab_len]; omega)]
theorem ar_drop {l : List Ar} {k : Nat} (h : k < l.length) : l.drop k = rd_T32 l (k : Int) :: l.drop (k + 1) := by
  rw [List.drop_eq_getElem_cons h]
  congr 1
  unfold rd_T32
  rw [Int.toNat_natCast, List.getD_eq_getElem?_getD, List.getElem?_eq_getElem h]
  rfl
theorem ar_take {l : List Ar} {k : Nat} (h : k < l.length) : l.take (k + 1) = l.take k ++ [rd_T32 l (k : Int)] := by
  rw [List.take_succ_eq_append_getElem h]
  congr 2
  unfold rd_T32
  rw [Int.toNat_natCast, List.getD_eq_getElem?_getD, List.getElem?_eq_getElem h]
  rfl
theorem ar_mem {l : List Ar} {k : Nat} (h : k < l.length) : rd_T32 l (k : Int) ∈ l := by
  unfold rd_T32
  rw [Int.toNat_natCast, List.getD_eq_getElem?_getD, List.getElem?_eq_getElem h]
  exact List.getElem_mem h
structure Fine (t : List (List ByteArray)) (ar : List Ar) (n : Nat) : Prop where
  t : Light t
  l : ar.length ≤ 4096
  s : ∀ a ∈ ar, a.f0.size ≤ 140737488351232
  n : n ≤ 400
theorem line_len {t : List (List ByteArray)} (h : Light t) (i : Nat) : (lineAt t i).length ≤ 600 := by
  by_cases hi : i < t.length
  · exact h.2 _ (line_mem hi)
  · unfold lineAt
    rw [List.getD_eq_getElem?_getD, List.getElem?_eq_none (by omega)]
    show 0 ≤ 600
    omega

section
variable {t : List (List ByteArray)} {ar : List Ar} {rows : Bool} {n : Nat} (hf : Fine t ar (n + 1))
include hf
/-! ### The program's -/
theorem len_row (i : Nat) (j : Nat) : (lineAt t i ++ adds rows i (ar.take j)).length ≤ 100000 := by
  have h1 := line_len hf.t i
  have h2 := adds_len rows i (ar.take j)
  have h3 := hf.l
  rw [List.length_append]
  rw [List.length_take] at h2
  omega
theorem n_l2 (j : Nat) (a : Ar) (hs : a.f0.size ≤ 140737488351232) (B : Nat → List ByteArray) (hB : ∀ i, (B i).length ≤ 200000) (hj : j ≤ 10000) (R : List (List ByteArray))
    (h : Ev (fun k => names_Table.l1 k rows (n : Nat) (tab (n + 1) (fun i => B i ++ addE rows a i)) ar (ar.length : Nat) ((j + 1 : Nat) : Int)) R) :
    ∀ (d p : Nat), p + d = n + 1 → Ev (fun k => names_Table.l2 k rows (n : Nat) (tab (n + 1) (fun i => if i < p then B i ++ addE rows a i else B i)) (atA rows a) (manyA rows a) ar (ar.length : Nat) (j : Nat) ((n + 1 : Nat) : Int) (p : Nat) (sN a) (eN a)) R := by
  have hn := hf.n
  intro d
  induction d with
  | zero =>
    intro p hp
    obtain rfl : p = n + 1 := by omega
    refine ev_step ?_
    simp only [names_Table.l2]
    rw [w64 (x := (j : Int) + 1) (by omega) (by omega)]
    refine ev_neg (by omega) ?_
    rw [tab_congr (n + 1) (F := fun i => if i < n + 1 then B i ++ addE rows a i else B i) (G := fun i => B i ++ addE rows a i) (fun i hi => if_pos hi)]
    exact h
  | succ d ih =>
    intro p hp
    have ih2 := ih (p + 1) (by omega)
    refine ev_step ?_
    simp only [names_Table.l2]
    rw [rd_line, tab_at (n + 1) _ (show p < n + 1 by omega), if_neg (Nat.lt_irrefl p), w64 (x := (p : Int) + 1) (by omega) (by omega), Int.toNat_natCast, tab_set, tab_len]
    have hBp := hB p
    refine ev_pos (by omega) (ev_ite (fun h1 => ev_pos (by omega) (ev_pos (by omega) (ev_pos (by omega) ?_))) (fun h1 => ?_))
    · have eE : addE rows a p = [eN a] := by unfold addE; rw [if_pos h1]
      rw [tab_congr (n + 1) (F := fun i => if i = p then B p ++ [eN a] else if i < p then B i ++ addE rows a i else B i) (G := fun i => if i < p + 1 then B i ++ addE rows a i else B i) (fun i hi => by
        by_cases h2 : i = p
        · subst h2
          rw [if_pos rfl, if_pos (by omega), eE]
        · rw [if_neg h2]
          by_cases h3 : i < p
          · rw [if_pos h3, if_pos (by omega)]
          · rw [if_neg h3, if_neg (by omega)])]
      exact ih2
    · have eE : addE rows a p = [] := by unfold addE; rw [if_neg h1]
      rw [tab_congr (n + 1) (F := fun i => if i < p then B i ++ addE rows a i else B i) (G := fun i => if i < p + 1 then B i ++ addE rows a i else B i) (fun i hi => by
        by_cases h2 : i = p
        · subst h2
          rw [if_neg (Nat.lt_irrefl _), if_pos (by omega), eE, List.append_nil]
        · by_cases h3 : i < p
          · rw [if_pos h3, if_pos (by omega)]
          · rw [if_neg h3, if_neg (by omega)])]
      exact ih2
theorem n_j5 (j : Nat) (a : Ar) (hs : a.f0.size ≤ 140737488351232) (B : Nat → List ByteArray) (hB : ∀ i, (B i).length ≤ 200000) (hj : j ≤ 10000) (R : List (List ByteArray))
    (h : Ev (fun k => names_Table.l1 k rows (n : Nat) (tab (n + 1) (fun i => B i ++ addE rows a i)) ar (ar.length : Nat) ((j + 1 : Nat) : Int)) R) :
    Ev (fun k => names_Table.j5 k rows (n : Nat) (tab (n + 1) B) (atA rows a) (manyA rows a) ar (ar.length : Nat) (j : Nat) (sN a) (eN a)) R := by
  have h2 := n_l2 hf j a hs B hB hj R h (n + 1) 0 (by omega)
  refine ev_step ?_
  simp only [names_Table.j5]
  rw [tab_len]
  rw [tab_congr (n + 1) (F := fun i => if i < 0 then B i ++ addE rows a i else B i) (G := B) (fun i hi => if_neg (by omega))] at h2
  exact h2
theorem n_j3 (j : Nat) (a : Ar) (hs : a.f0.size ≤ 140737488351232) (B : Nat → List ByteArray) (hB : ∀ i, (B i).length ≤ 100000) (hj : j ≤ 10000) (R : List (List ByteArray))
    (h : Ev (fun k => names_Table.l1 k rows (n : Nat) (tab (n + 1) (fun i => B i ++ (addS rows a i ++ addE rows a i))) ar (ar.length : Nat) ((j + 1 : Nat) : Int)) R) (at_ many : Int) (h1 : at_ = atA rows a) (h2 : many = manyA rows a) :
    Ev (fun k => names_Table.j3 k rows (n : Nat) (tab (n + 1) B) at_ many ar (ar.length : Nat) (j : Nat) a.f0 a.f1 a.f2 a.f3 a.f4) R := by
  have hn := hf.n
  subst h1
  subst h2
  have h5 := n_j5 hf j a hs (fun i => B i ++ addS rows a i) (fun i => by
    have h3 := hB i
    have h4 := addS_len rows a i
    rw [List.length_append]
    omega) hj R (by
    rw [tab_congr (n + 1) (F := fun i => (B i ++ addS rows a i) ++ addE rows a i) (G := fun i => B i ++ (addS rows a i ++ addE rows a i)) (fun i hi => List.append_assoc _ _ _)]
    exact h)
  have hno : (∀ i, i < n + 1 → ¬ (i : Int) = atA rows a) → tab (n + 1) (fun i => B i ++ addS rows a i) = tab (n + 1) B := fun k => tab_congr (n + 1) (fun i hi => by
    unfold addS
    rw [if_neg (k i hi), List.append_nil])
  have hj4 : ∀ b : Bool, (b = true ↔ (0 ≤ atA rows a ∧ atA rows a ≤ n)) → Ev (fun k => names_Table.j4 k rows (n : Nat) (tab (n + 1) B) (atA rows a) (manyA rows a) ar (ar.length : Nat) (j : Nat) b (sN a) (eN a)) R := by
    intro b hb
    refine ev_step ?_
    simp only [names_Table.j4]
    refine ev_ite (fun k => ?_) (fun k => ?_)
    · obtain ⟨k1, k2⟩ := hb.1 k
      obtain ⟨p, hp⟩ := Int.eq_ofNat_of_zero_le k1
      rw [hp] at h5 k2 ⊢
      have hBp := hB p
      rw [rd_line, tab_at (n + 1) _ (show p < n + 1 by omega), Int.toNat_natCast, tab_set, tab_len]
      refine ev_pos (by omega) (ev_pos (by omega) (ev_pos (by omega) ?_))
      rw [tab_congr (n + 1) (F := fun i => if i = p then B p ++ [sN a] else B i) (G := fun i => B i ++ addS rows a i) (fun i hi => by
        unfold addS
        rw [hp]
        by_cases h2 : i = p
        · subst h2
          rw [if_pos rfl, if_pos rfl]
        · rw [if_neg h2, if_neg (by omega), List.append_nil])]
      exact h5
    · rw [hno (fun i hi e => k (hb.2 (by omega)))] at h5
      exact h5
  refine ev_step ?_
  simp only [names_Table.j3]
  refine ev_pos (by omega) (ev_pos (by omega) (ev_ite (fun k => hj4 _ ⟨fun k2 => ⟨k, of_decide_eq_true k2⟩, fun k2 => decide_eq_true k2.2⟩) (fun k => hj4 _ ⟨fun k2 => by (cases k2), fun k2 => absurd k2.1 k⟩)))
theorem n_l1 : ∀ (d j : Nat), ar.length - j = d → j ≤ ar.length → Ev (fun k => names_Table.l1 k rows (n : Nat) (tab (n + 1) (fun i => lineAt t i ++ adds rows i (ar.take j))) ar (ar.length : Nat) (j : Nat)) (tab (n + 1) (row t rows ar)) := by
  have hl := hf.l
  intro d
  induction d with
  | zero =>
    intro j hd hj
    obtain rfl : j = ar.length := by omega
    refine ev_step ?_
    simp only [names_Table.l1]
    refine ev_neg (by omega) (ev_eq ?_)
    rw [List.take_length]
    rfl
  | succ d ih =>
    intro j hd hj
    have hlt : j < ar.length := by omega
    have hs := hf.s _ (ar_mem hlt)
    have ih2 := ih (j + 1) (by omega) (by omega)
    rw [tab_congr (n + 1) (F := fun i => lineAt t i ++ adds rows i (ar.take (j + 1))) (G := fun i => (lineAt t i ++ adds rows i (ar.take j)) ++ (addS rows (rd_T32 ar (j : Int)) i ++ addE rows (rd_T32 ar (j : Int)) i)) (fun i hi => by
      rw [ar_take hlt, adds_app, ← List.append_assoc]
      congr 1
      show (_ ++ _) ++ [] = _
      rw [List.append_nil])] at ih2
    refine ev_step ?_
    simp only [names_Table.l1]
    generalize rd_T32 ar (j : Int) = a at *
    have h3 := n_j3 hf j a hs (fun i => lineAt t i ++ adds rows i (ar.take j)) (fun i => len_row hf i j) (by omega) _ ih2
    refine ev_pos (by omega) (ev_pos (by omega) (ev_pos (by omega) (ev_ite (fun h1 => h3 _ _ (by unfold atA; rw [if_pos h1]) (by unfold manyA; rw [if_pos h1])) (fun h1 => h3 _ _ (by unfold atA; rw [if_neg h1]) (by unfold manyA; rw [if_neg h1])))))
theorem n_l0 : ∀ (d i : Nat), i + d = n + 1 → Ev (fun k => names_Table.l0 k t ar rows (n : Nat) (tab (n + 1) (fun j => if j < i then lineAt t j else [])) ((n + 1 : Nat) : Int) (i : Nat)) (tab (n + 1) (row t rows ar)) := by
  have hn := hf.n
  have ht := hf.t.1
  intro d
  induction d with
  | zero =>
    intro i hi
    obtain rfl : i = n + 1 := by omega
    have h := n_l1 hf (rows := rows) ar.length 0 rfl (Nat.zero_le _)
    refine ev_step ?_
    simp only [names_Table.l0]
    refine ev_neg (by omega) ?_
    rw [tab_congr (n + 1) (F := fun j => if j < n + 1 then lineAt t j else []) (G := fun i => lineAt t i ++ adds rows i (ar.take 0)) (fun j hj => by
      rw [if_pos hj, List.take_zero, show adds rows j [] = [] from rfl, List.append_nil])]
    exact h
  | succ d ih =>
    intro i hi
    have ih2 := ih (i + 1) (by omega)
    refine ev_step ?_
    simp only [names_Table.l0]
    rw [rd_line, rd_line, tab_at (n + 1) _ (show i < n + 1 by omega), if_neg (Nat.lt_irrefl i), List.nil_append, w64 (x := (i : Int) + 1) (by omega) (by omega), Int.toNat_natCast, tab_set, tab_len]
    have hl := line_len hf.t i
    refine ev_pos (by omega) (ev_ite (fun h1 => ev_pos (by omega) (ev_pos (by omega) (ev_pos (by simp only [List.length_nil]; omega) ?_))) (fun h1 => ?_))
    · rw [tab_congr (n + 1) (F := fun j => if j = i then lineAt t i else if j < i then lineAt t j else []) (G := fun j => if j < i + 1 then lineAt t j else []) (fun j hj => by
        by_cases h2 : j = i
        · subst h2
          rw [if_pos rfl, if_pos (by omega)]
        · rw [if_neg h2]
          by_cases h3 : j < i
          · rw [if_pos h3, if_pos (by omega)]
          · rw [if_neg h3, if_neg (by omega)])]
      exact ih2
    · have e : lineAt t i = [] := by
        unfold lineAt
        rw [List.getD_eq_getElem?_getD, List.getElem?_eq_none (by omega)]
        rfl
      rw [tab_congr (n + 1) (F := fun j => if j < i then lineAt t j else []) (G := fun j => if j < i + 1 then lineAt t j else []) (fun j hj => by
        by_cases h2 : j = i
        · subst h2
          rw [if_neg (Nat.lt_irrefl _), if_pos (by omega), e]
        · by_cases h3 : j < i
          · rw [if_pos h3, if_pos (by omega)]
          · rw [if_neg h3, if_neg (by omega)])]
      exact ih2
end
theorem nTable {t : List (List ByteArray)} {ar : List Ar} (rows : Bool) {n : Nat} (hf : Fine t ar (n + 1)) : Ev (fun k => names_Table.f k t ar rows (n : Nat)) (tab (n + 1) (row t rows ar)) := by
  have hn := hf.n
  unfold names_Table.f
  refine ev_neg (by omega) (ev_step ?_)
  simp only [names_Table.j0]
  rw [w64 (x := (n : Int) + 1) (by omega) (by omega), show ((n : Int) + 1).toNat = n + 1 by omega, tab_nil]
  refine ev_neg (by simp; omega) (ev_pos (by omega) (ev_pos (by omega) (ev_bindc rfl ?_)))
  rw [tab_len]
  have h := n_l0 hf (rows := rows) (n + 1) 0 (by omega)
  rw [tab_congr (n + 1) (F := fun j => if j < 0 then lineAt t j else []) (G := fun _ => []) (fun j hj => if_neg (by omega))] at h
  exact h
end Go.Proofs.Ytaalmkkekbhpnaa.PureTb
