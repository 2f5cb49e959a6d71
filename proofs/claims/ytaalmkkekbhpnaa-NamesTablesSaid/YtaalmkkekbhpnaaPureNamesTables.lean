/- NamesTables, as a statement on lists and numbers. Conditions: none beyond the arguments' own kinds. -/
import Derived.Test.YtaalmkkekbhpnaaPNbx4
import Derived.Test.YtaalmkkekbhpnaaPNbx5
import Derived.Test.YtaalmkkekbhpnaaPNbx6
import Derived.Test.YtaalmkkekbhpnaaPNbx7
import Derived.Test.YtaalmkkekbhpnaaPureNb
set_option linter.unusedVariables false
set_option linter.unusedSimpArgs false
namespace Go.Proofs.Ytaalmkkekbhpnaa.PureTb
open Go.RowKit Go.Proofs.YtaalmkkekbhpnaaW.PrintWords Go.Proofs.YtaalmkkekbhpnaaW.PrintMore Go.Proofs.Ytaalmkkekbhpnaa.Evs Go.Proofs.Ytaalmkkekbhpnaa.Giv Go.Proofs.Ytaalmkkekbhpnaa.Opn Go.Proofs.Ytaalmkkekbhpnaa.PNb Go.Proofs.Ytaalmkkekbhpnaa.PureNb
abbrev Ar := S32
def sN (a : Ar) : ByteArray := a.f0 ++ (⟨#[45, 115, 116, 97, 114, 116]⟩ : ByteArray)
def eN (a : Ar) : ByteArray := a.f0 ++ (⟨#[45, 101, 110, 100]⟩ : ByteArray)
def atA (rows : Bool) (a : Ar) : Int := if rows = true then a.f1 else a.f2
def manyA (rows : Bool) (a : Ar) : Int := if rows = true then a.f3 else a.f4
/-- What an area adds to a line. -/
def addS (rows : Bool) (a : Ar) (i : Nat) : List ByteArray := if (i : Int) = atA rows a then [sN a] else []
def addE (rows : Bool) (a : Ar) (i : Nat) : List ByteArray := if wrap64 ((i : Int) - manyA rows a) = atA rows a then [eN a] else []
def adds (rows : Bool) (i : Nat) : List Ar → List ByteArray
  | [] => []
  | a :: l => (addS rows a i ++ addE rows a i) ++ adds rows i l
theorem adds_app (rows : Bool) (i : Nat) : ∀ (a b : List Ar), adds rows i (a ++ b) = adds rows i a ++ adds rows i b
  | [], b => rfl
  | x :: a, b => by
    show (addS rows x i ++ addE rows x i) ++ adds rows i (a ++ b) = ((addS rows x i ++ addE rows x i) ++ adds rows i a) ++ adds rows i b
    rw [adds_app rows i a b]
    simp only [List.append_assoc]
theorem addS_len (rows : Bool) (a : Ar) (i : Nat) : (addS rows a i).length ≤ 1 := by
  unfold addS
  split <;> simp
theorem addE_len (rows : Bool) (a : Ar) (i : Nat) : (addE rows a i).length ≤ 1 := by
  unfold addE
  split <;> simp
theorem adds_len (rows : Bool) (i : Nat) : ∀ (l : List Ar), (adds rows i l).length ≤ 2 * l.length
  | [] => Nat.le_refl _
  | a :: l => by
    have h1 := addS_len rows a i
    have h2 := addE_len rows a i
    have h3 := adds_len rows i l
    unfold adds
    simp only [List.length_append, List.length_cons]
    omega
/-- A line, as the document says. -/
def row (t : List (List ByteArray)) (rows : Bool) (ar : List Ar) (i : Nat) : List ByteArray := lineAt t i ++ adds rows i ar
def tab (n : Nat) (F : Nat → List ByteArray) : List (List ByteArray) := (List.range n).map F
theorem tab_len (n : Nat) (F : Nat → List ByteArray) : (tab n F).length = n := by
  unfold tab
  rw [List.length_map, List.length_range]
theorem tab_at (n : Nat) (F : Nat → List ByteArray) {i : Nat} (h : i < n) : lineAt (tab n F) i = F i := by
  unfold lineAt tab
  rw [List.getD_eq_getElem?_getD, List.getElem?_map, List.getElem?_range h]
  rfl
theorem tab_congr (n : Nat) {F G : Nat → List ByteArray} (h : ∀ i, i < n → F i = G i) : tab n F = tab n G := by
  unfold tab
  apply List.map_congr_left
  intro i hi
  exact h i (List.mem_range.1 hi)
theorem tab_set (n : Nat) (F : Nat → List ByteArray) (i : Nat) (v : List ByteArray) : (tab n F).set i v = tab n (fun j => if j = i then v else F j) := by
  apply List.ext_getElem?
  intro m
  by_cases hm : m < n
  · by_cases h : i = m
    · subst h
      rw [List.getElem?_set_self (by rw [tab_len]; exact hm)]
      unfold tab
      rw [List.getElem?_map, List.getElem?_range hm]
      show some v = some (if i = i then v else F i)
      rw [if_pos rfl]
    · rw [List.getElem?_set_ne h]
      unfold tab
      rw [List.getElem?_map, List.getElem?_map, List.getElem?_range hm]
      show some (F m) = some (if m = i then v else F m)
      rw [if_neg (fun k => h k.symm)]
  · rw [List.getElem?_eq_none (by rw [List.length_set, tab_len]; omega), List.getElem?_eq_none (by rw [tab_len]; omega)]
theorem tab_snoc (n : Nat) (F : Nat → List ByteArray) : tab n F ++ [F n] = tab (n + 1) F := by
  unfold tab
  rw [List.range_succ, List.map_append]
  rfl
theorem tab_nil (n : Nat) : List.replicate n ([] : List ByteArray) = tab n (fun _ => []) := by
  apply List.ext_getElem?
  intro m
  by_cases hm : m < n
  · unfold tab
    rw [List.getElem?_replicate_of_lt hm, List.getElem?_map, List.getElem?_range hm]
    rfl
  · rw [List.getElem?_eq_none (by rw [List.length_replicate]; omega), List.getElem?_eq_none (by rw [tab_len]; omega)]
theorem ar_drop {l : List Ar} {k : Nat} (h : k < l.length) : l.drop k = rd_T32 l (k : Int) :: l.drop (k + 1) := by
  rw [List.drop_eq_getElem_cons h]
  congr 1
  unfold rd_T32
  rw [Int.toNat_natCast, List.getD_eq_getElem?_getD, List.getElem?_eq_getElem h]
  rfl
theorem ar_take {l : List Ar} {k : Nat} (h : k < l.length) : l.take (k + 1) = l.take k ++ [rd_T32 l (k : Int)] := by
  rw [List.take_succ_eq_append_getElem h]
  congr 2
  unfold rd_T32
  rw [Int.toNat_natCast, List.getD_eq_getElem?_getD, List.getElem?_eq_getElem h]
  rfl
theorem ar_mem {l : List Ar} {k : Nat} (h : k < l.length) : rd_T32 l (k : Int) ∈ l := by
  unfold rd_T32
  rw [Int.toNat_natCast, List.getD_eq_getElem?_getD, List.getElem?_eq_getElem h]
  exact List.getElem_mem h
structure Fine (t : List (List ByteArray)) (ar : List Ar) (n : Nat) : Prop where
  t : Light t
  l : ar.length ≤ 40
  s : ∀ a ∈ ar, a.f0.size ≤ 140737488351232
  n : n ≤ 400
theorem line_len {t : List (List ByteArray)} (h : Light t) (i : Nat) : (lineAt t i).length ≤ 600 := by
  by_cases hi : i < t.length
  · exact h.2 _ (line_mem hi)
  · unfold lineAt
    rw [List.getD_eq_getElem?_getD, List.getElem?_eq_none (by omega)]
    show 0 ≤ 600
    omega

/-! ### The document's -/
section
variable {t : List (List ByteArray)} {ar : List Ar} {rows : Bool} {n : Nat} (hf : Fine t ar (n + 1))
include hf
theorem ref_l1 (i : Nat) (hi : i ≤ n) (R : List (List ByteArray)) (h : Ev (fun k => parterreref16_Table.l0 k t ar rows (n : Nat) (tab (i + 1) (row t rows ar)) ((i + 1 : Nat) : Int)) R) :
    ∀ (d j : Nat), ar.length - j = d → j ≤ ar.length → Ev (fun k => parterreref16_Table.l1 k t ar rows (n : Nat) (tab i (row t rows ar)) (i : Nat) (lineAt t i ++ adds rows i (ar.take j)) (j : Nat)) R := by
  have hl := hf.l
  have hn := hf.n
  intro d
  induction d with
  | zero =>
    intro j hd hj
    obtain rfl : j = ar.length := by omega
    refine ev_step ?_
    simp only [parterreref16_Table.l1]
    rw [List.take_length, w64 (x := (i : Int) + 1) (by omega) (by omega)]
    refine ev_neg (by omega) (ev_pos (by rw [tab_len]; omega) ?_)
    rw [show tab i (row t rows ar) ++ [lineAt t i ++ adds rows i ar] = tab (i + 1) (row t rows ar) from tab_snoc i (row t rows ar)]
    exact h
  | succ d ih =>
    intro j hd hj
    have hlt : j < ar.length := by omega
    have hs := hf.s _ (ar_mem hlt)
    have ih2 := ih (j + 1) (by omega) (by omega)
    rw [ar_take hlt, adds_app] at ih2
    have hacc : (lineAt t i ++ adds rows i (ar.take j)).length ≤ 1000 := by
      have h1 := line_len hf.t i
      have h2 := adds_len rows i (ar.take j)
      rw [List.length_append]
      rw [List.length_take] at h2
      omega
    refine ev_step ?_
    simp only [parterreref16_Table.l1]
    generalize rd_T32 ar (j : Int) = a at *
    have hj4 : ∀ (at_ many : Int), at_ = atA rows a → many = manyA rows a → Ev (fun k => parterreref16_Table.j4 k t ar rows (n : Nat) (tab i (row t rows ar)) (i : Nat) (lineAt t i ++ adds rows i (ar.take j)) (j : Nat) at_ many a.f0 a.f1 a.f2 a.f3 a.f4) R := by
      rintro at_ many rfl rfl
      refine ev_step ?_
      simp only [parterreref16_Table.j4]
      rw [w64 (x := (j : Int) + 1) (by omega) (by omega)]
      have e : adds rows i [a] = (addS rows a i ++ addE rows a i) ++ [] := rfl
      rw [e, List.append_nil, ← List.append_assoc, ← List.append_assoc] at ih2
      refine ev_ite (fun h1 => ev_pos (by omega) (ev_pos (by omega) (ev_bindc rfl ?_))) (fun h1 => ?_)
      · have eS : addS rows a i = [sN a] := by unfold addS; rw [if_pos h1]
        rw [eS] at ih2
        refine ev_ite (fun h2 => ev_pos (by omega) (ev_pos (by rw [List.length_append]; simp only [List.length_cons, List.length_nil]; omega) ?_)) (fun h2 => ?_)
        · have eE : addE rows a i = [eN a] := by unfold addE; rw [if_pos h2]
          rw [eE] at ih2
          exact ih2
        · have eE : addE rows a i = [] := by unfold addE; rw [if_neg h2]
          rw [eE, List.append_nil] at ih2
          exact ih2
      · have eS : addS rows a i = [] := by unfold addS; rw [if_neg h1]
        rw [eS, List.append_nil] at ih2
        refine ev_ite (fun h2 => ev_pos (by omega) (ev_pos (by omega) ?_)) (fun h2 => ?_)
        · have eE : addE rows a i = [eN a] := by unfold addE; rw [if_pos h2]
          rw [eE] at ih2
          exact ih2
        · have eE : addE rows a i = [] := by unfold addE; rw [if_neg h2]
          rw [eE, List.append_nil] at ih2
          exact ih2
    refine ev_pos (by omega) (ev_pos (by omega) (ev_ite (fun h1 => hj4 _ _ (by unfold atA; rw [if_pos h1]) (by unfold manyA; rw [if_pos h1])) (fun h1 => hj4 _ _ (by unfold atA; rw [if_neg h1]) (by unfold manyA; rw [if_neg h1]))))
theorem ref_l0 : ∀ (d i : Nat), i + d = n + 1 → Ev (fun k => parterreref16_Table.l0 k t ar rows (n : Nat) (tab i (row t rows ar)) (i : Nat)) (tab (n + 1) (row t rows ar)) := by
  have hn := hf.n
  have ht := hf.t.1
  intro d
  induction d with
  | zero =>
    intro i hi
    obtain rfl : i = n + 1 := by omega
    refine ev_step ?_
    simp only [parterreref16_Table.l0]
    exact ev_neg (by omega) (ev_eq rfl)
  | succ d ih =>
    intro i hi
    have h := ref_l1 hf (rows := rows) i (by omega) _ (ih (i + 1) (by omega)) (ar.length) 0 rfl (Nat.zero_le _)
    rw [List.take_zero, show adds rows i [] = [] from rfl, List.append_nil] at h
    refine ev_step ?_
    simp only [parterreref16_Table.l0]
    refine ev_pos (by omega) (ev_ite (fun h1 => ev_pos (by omega) ?_) (fun h1 => ?_))
    · rw [rd_line, List.nil_append]
      refine ev_pos (by have := line_len hf.t i; simp only [List.length_nil]; omega) (ev_step ?_)
      simp only [parterreref16_Table.j2]
      exact h
    · have e : lineAt t i = [] := by
        unfold lineAt
        rw [List.getD_eq_getElem?_getD, List.getElem?_eq_none (by omega)]
        rfl
      rw [e] at h
      refine ev_step ?_
      simp only [parterreref16_Table.j2]
      exact h

/-! ### The program's -/
theorem len_row (i : Nat) (j : Nat) : (lineAt t i ++ adds rows i (ar.take j)).length ≤ 1000 := by
  have h1 := line_len hf.t i
  have h2 := adds_len rows i (ar.take j)
  have h3 := hf.l
  rw [List.length_append]
  rw [List.length_take] at h2
  omega
theorem n_l2 (j : Nat) (a : Ar) (hs : a.f0.size ≤ 140737488351232) (B : Nat → List ByteArray) (hB : ∀ i, (B i).length ≤ 2000) (hj : j ≤ 100) (R : List (List ByteArray))
    (h : Ev (fun k => names_Table.l1 k rows (n : Nat) (tab (n + 1) (fun i => B i ++ addE rows a i)) ar (ar.length : Nat) ((j + 1 : Nat) : Int)) R) :
    ∀ (d p : Nat), p + d = n + 1 → Ev (fun k => names_Table.l2 k rows (n : Nat) (tab (n + 1) (fun i => if i < p then B i ++ addE rows a i else B i)) (atA rows a) (manyA rows a) ar (ar.length : Nat) (j : Nat) ((n + 1 : Nat) : Int) (p : Nat) (sN a) (eN a)) R := by
  have hn := hf.n
  intro d
  induction d with
  | zero =>
    intro p hp
    obtain rfl : p = n + 1 := by omega
    refine ev_step ?_
    simp only [names_Table.l2]
    rw [w64 (x := (j : Int) + 1) (by omega) (by omega)]
    refine ev_neg (by omega) ?_
    rw [tab_congr (n + 1) (F := fun i => if i < n + 1 then B i ++ addE rows a i else B i) (G := fun i => B i ++ addE rows a i) (fun i hi => if_pos hi)]
    exact h
  | succ d ih =>
    intro p hp
    have ih2 := ih (p + 1) (by omega)
    refine ev_step ?_
    simp only [names_Table.l2]
    rw [rd_line, tab_at (n + 1) _ (show p < n + 1 by omega), if_neg (Nat.lt_irrefl p), w64 (x := (p : Int) + 1) (by omega) (by omega), Int.toNat_natCast, tab_set, tab_len]
    have hBp := hB p
    refine ev_pos (by omega) (ev_ite (fun h1 => ev_pos (by omega) (ev_pos (by omega) (ev_pos (by omega) ?_))) (fun h1 => ?_))
    · have eE : addE rows a p = [eN a] := by unfold addE; rw [if_pos h1]
      rw [tab_congr (n + 1) (F := fun i => if i = p then B p ++ [eN a] else if i < p then B i ++ addE rows a i else B i) (G := fun i => if i < p + 1 then B i ++ addE rows a i else B i) (fun i hi => by
        by_cases h2 : i = p
        · subst h2
          rw [if_pos rfl, if_pos (by omega), eE]
        · rw [if_neg h2]
          by_cases h3 : i < p
          · rw [if_pos h3, if_pos (by omega)]
          · rw [if_neg h3, if_neg (by omega)])]
      exact ih2
    · have eE : addE rows a p = [] := by unfold addE; rw [if_neg h1]
      rw [tab_congr (n + 1) (F := fun i => if i < p then B i ++ addE rows a i else B i) (G := fun i => if i < p + 1 then B i ++ addE rows a i else B i) (fun i hi => by
        by_cases h2 : i = p
        · subst h2
          rw [if_neg (Nat.lt_irrefl _), if_pos (by omega), eE, List.append_nil]
        · by_cases h3 : i < p
          · rw [if_pos h3, if_pos (by omega)]
          · rw [if_neg h3, if_neg (by omega)])]
      exact ih2
theorem n_j5 (j : Nat) (a : Ar) (hs : a.f0.size ≤ 140737488351232) (B : Nat → List ByteArray) (hB : ∀ i, (B i).length ≤ 2000) (hj : j ≤ 100) (R : List (List ByteArray))
    (h : Ev (fun k => names_Table.l1 k rows (n : Nat) (tab (n + 1) (fun i => B i ++ addE rows a i)) ar (ar.length : Nat) ((j + 1 : Nat) : Int)) R) :
    Ev (fun k => names_Table.j5 k rows (n : Nat) (tab (n + 1) B) (atA rows a) (manyA rows a) ar (ar.length : Nat) (j : Nat) (sN a) (eN a)) R := by
  have h2 := n_l2 hf j a hs B hB hj R h (n + 1) 0 (by omega)
  refine ev_step ?_
  simp only [names_Table.j5]
  rw [tab_len]
  rw [tab_congr (n + 1) (F := fun i => if i < 0 then B i ++ addE rows a i else B i) (G := B) (fun i hi => if_neg (by omega))] at h2
  exact h2
theorem n_j3 (j : Nat) (a : Ar) (hs : a.f0.size ≤ 140737488351232) (B : Nat → List ByteArray) (hB : ∀ i, (B i).length ≤ 1000) (hj : j ≤ 100) (R : List (List ByteArray))
    (h : Ev (fun k => names_Table.l1 k rows (n : Nat) (tab (n + 1) (fun i => B i ++ (addS rows a i ++ addE rows a i))) ar (ar.length : Nat) ((j + 1 : Nat) : Int)) R) (at_ many : Int) (h1 : at_ = atA rows a) (h2 : many = manyA rows a) :
    Ev (fun k => names_Table.j3 k rows (n : Nat) (tab (n + 1) B) at_ many ar (ar.length : Nat) (j : Nat) a.f0 a.f1 a.f2 a.f3 a.f4) R := by
  have hn := hf.n
  subst h1
  subst h2
  have h5 := n_j5 hf j a hs (fun i => B i ++ addS rows a i) (fun i => by
    have h3 := hB i
    have h4 := addS_len rows a i
    rw [List.length_append]
    omega) hj R (by
    rw [tab_congr (n + 1) (F := fun i => (B i ++ addS rows a i) ++ addE rows a i) (G := fun i => B i ++ (addS rows a i ++ addE rows a i)) (fun i hi => List.append_assoc _ _ _)]
    exact h)
  have hno : (∀ i, i < n + 1 → ¬ (i : Int) = atA rows a) → tab (n + 1) (fun i => B i ++ addS rows a i) = tab (n + 1) B := fun k => tab_congr (n + 1) (fun i hi => by
    unfold addS
    rw [if_neg (k i hi), List.append_nil])
  have hj4 : ∀ b : Bool, (b = true ↔ (0 ≤ atA rows a ∧ atA rows a ≤ n)) → Ev (fun k => names_Table.j4 k rows (n : Nat) (tab (n + 1) B) (atA rows a) (manyA rows a) ar (ar.length : Nat) (j : Nat) b (sN a) (eN a)) R := by
    intro b hb
    refine ev_step ?_
    simp only [names_Table.j4]
    refine ev_ite (fun k => ?_) (fun k => ?_)
    · obtain ⟨k1, k2⟩ := hb.1 k
      obtain ⟨p, hp⟩ := Int.eq_ofNat_of_zero_le k1
      rw [hp] at h5 k2 ⊢
      have hBp := hB p
      rw [rd_line, tab_at (n + 1) _ (show p < n + 1 by omega), Int.toNat_natCast, tab_set, tab_len]
      refine ev_pos (by omega) (ev_pos (by omega) (ev_pos (by omega) ?_))
      rw [tab_congr (n + 1) (F := fun i => if i = p then B p ++ [sN a] else B i) (G := fun i => B i ++ addS rows a i) (fun i hi => by
        unfold addS
        rw [hp]
        by_cases h2 : i = p
        · subst h2
          rw [if_pos rfl, if_pos rfl]
        · rw [if_neg h2, if_neg (by omega), List.append_nil])]
      exact h5
    · rw [hno (fun i hi e => k (hb.2 (by omega)))] at h5
      exact h5
  refine ev_step ?_
  simp only [names_Table.j3]
  refine ev_pos (by omega) (ev_pos (by omega) (ev_ite (fun k => hj4 _ ⟨fun k2 => ⟨k, of_decide_eq_true k2⟩, fun k2 => decide_eq_true k2.2⟩) (fun k => hj4 _ ⟨fun k2 => by (cases k2), fun k2 => absurd k2.1 k⟩)))
theorem n_l1 : ∀ (d j : Nat), ar.length - j = d → j ≤ ar.length → Ev (fun k => names_Table.l1 k rows (n : Nat) (tab (n + 1) (fun i => lineAt t i ++ adds rows i (ar.take j))) ar (ar.length : Nat) (j : Nat)) (tab (n + 1) (row t rows ar)) := by
  have hl := hf.l
  intro d
  induction d with
  | zero =>
    intro j hd hj
    obtain rfl : j = ar.length := by omega
    refine ev_step ?_
    simp only [names_Table.l1]
    refine ev_neg (by omega) (ev_eq ?_)
    rw [List.take_length]
    rfl
  | succ d ih =>
    intro j hd hj
    have hlt : j < ar.length := by omega
    have hs := hf.s _ (ar_mem hlt)
    have ih2 := ih (j + 1) (by omega) (by omega)
    rw [tab_congr (n + 1) (F := fun i => lineAt t i ++ adds rows i (ar.take (j + 1))) (G := fun i => (lineAt t i ++ adds rows i (ar.take j)) ++ (addS rows (rd_T32 ar (j : Int)) i ++ addE rows (rd_T32 ar (j : Int)) i)) (fun i hi => by
      rw [ar_take hlt, adds_app, ← List.append_assoc]
      congr 1
      show (_ ++ _) ++ [] = _
      rw [List.append_nil])] at ih2
    refine ev_step ?_
    simp only [names_Table.l1]
    generalize rd_T32 ar (j : Int) = a at *
    have h3 := n_j3 hf j a hs (fun i => lineAt t i ++ adds rows i (ar.take j)) (fun i => len_row hf i j) (by omega) _ ih2
    refine ev_pos (by omega) (ev_pos (by omega) (ev_pos (by omega) (ev_ite (fun h1 => h3 _ _ (by unfold atA; rw [if_pos h1]) (by unfold manyA; rw [if_pos h1])) (fun h1 => h3 _ _ (by unfold atA; rw [if_neg h1]) (by unfold manyA; rw [if_neg h1])))))
theorem n_l0 : ∀ (d i : Nat), i + d = n + 1 → Ev (fun k => names_Table.l0 k t ar rows (n : Nat) (tab (n + 1) (fun j => if j < i then lineAt t j else [])) ((n + 1 : Nat) : Int) (i : Nat)) (tab (n + 1) (row t rows ar)) := by
  have hn := hf.n
  have ht := hf.t.1
  intro d
  induction d with
  | zero =>
    intro i hi
    obtain rfl : i = n + 1 := by omega
    have h := n_l1 hf (rows := rows) ar.length 0 rfl (Nat.zero_le _)
    refine ev_step ?_
    simp only [names_Table.l0]
    refine ev_neg (by omega) ?_
    rw [tab_congr (n + 1) (F := fun j => if j < n + 1 then lineAt t j else []) (G := fun i => lineAt t i ++ adds rows i (ar.take 0)) (fun j hj => by
      rw [if_pos hj, List.take_zero, show adds rows j [] = [] from rfl, List.append_nil])]
    exact h
  | succ d ih =>
    intro i hi
    have ih2 := ih (i + 1) (by omega)
    refine ev_step ?_
    simp only [names_Table.l0]
    rw [rd_line, rd_line, tab_at (n + 1) _ (show i < n + 1 by omega), if_neg (Nat.lt_irrefl i), List.nil_append, w64 (x := (i : Int) + 1) (by omega) (by omega), Int.toNat_natCast, tab_set, tab_len]
    have hl := line_len hf.t i
    refine ev_pos (by omega) (ev_ite (fun h1 => ev_pos (by omega) (ev_pos (by omega) (ev_pos (by simp only [List.length_nil]; omega) ?_))) (fun h1 => ?_))
    · rw [tab_congr (n + 1) (F := fun j => if j = i then lineAt t i else if j < i then lineAt t j else []) (G := fun j => if j < i + 1 then lineAt t j else []) (fun j hj => by
        by_cases h2 : j = i
        · subst h2
          rw [if_pos rfl, if_pos (by omega)]
        · rw [if_neg h2]
          by_cases h3 : j < i
          · rw [if_pos h3, if_pos (by omega)]
          · rw [if_neg h3, if_neg (by omega)])]
      exact ih2
    · have e : lineAt t i = [] := by
        unfold lineAt
        rw [List.getD_eq_getElem?_getD, List.getElem?_eq_none (by omega)]
        rfl
      rw [tab_congr (n + 1) (F := fun j => if j < i then lineAt t j else []) (G := fun j => if j < i + 1 then lineAt t j else []) (fun j hj => by
        by_cases h2 : j = i
        · subst h2
          rw [if_neg (Nat.lt_irrefl _), if_pos (by omega), e]
        · by_cases h3 : j < i
          · rw [if_pos h3, if_pos (by omega)]
          · rw [if_neg h3, if_neg (by omega)])]
      exact ih2
end
theorem nTable {t : List (List ByteArray)} {ar : List Ar} (rows : Bool) {n : Nat} (hf : Fine t ar (n + 1)) : Ev (fun k => names_Table.f k t ar rows (n : Nat)) (tab (n + 1) (row t rows ar)) := by
  have hn := hf.n
  unfold names_Table.f
  refine ev_neg (by omega) (ev_step ?_)
  simp only [names_Table.j0]
  rw [w64 (x := (n : Int) + 1) (by omega) (by omega), show ((n : Int) + 1).toNat = n + 1 by omega, tab_nil]
  refine ev_neg (by simp; omega) (ev_pos (by omega) (ev_pos (by omega) (ev_bindc rfl ?_)))
  rw [tab_len]
  have h := n_l0 hf (rows := rows) (n + 1) 0 (by omega)
  rw [tab_congr (n + 1) (F := fun j => if j < 0 then lineAt t j else []) (G := fun _ => []) (fun j hj => if_neg (by omega))] at h
  exact h
theorem rTable {t : List (List ByteArray)} {ar : List Ar} (rows : Bool) {n : Nat} (hf : Fine t ar (n + 1)) : Ev (fun k => parterreref16_Table.f k t ar rows (n : Nat)) (tab (n + 1) (row t rows ar)) := by
  have hn := hf.n
  unfold parterreref16_Table.f
  refine ev_neg (by omega) (ev_step ?_)
  simp only [parterreref16_Table.j0]
  exact ev_neg (by simp; omega) (ref_l0 hf (rows := rows) (n + 1) 0 (by omega))
theorem nTable_no (t : List (List ByteArray)) (ar : List Ar) (rows : Bool) {m : Int} (h : m < 0 ∨ 10000 < m) : Ev (fun k => names_Table.f k t ar rows m) [] := by
  unfold names_Table.f
  refine ev_ite (fun _ => ev_step ?_) (fun h1 => ev_step ?_)
  · simp only [names_Table.j0]
    exact ev_pos trivial (ev_eq rfl)
  · simp only [names_Table.j0]
    exact ev_pos (decide_eq_true (by omega)) (ev_eq rfl)
theorem rTable_no (t : List (List ByteArray)) (ar : List Ar) (rows : Bool) {m : Int} (h : m < 0 ∨ 10000 < m) : Ev (fun k => parterreref16_Table.f k t ar rows m) [] := by
  unfold parterreref16_Table.f
  refine ev_ite (fun _ => ev_step ?_) (fun h1 => ev_step ?_)
  · simp only [parterreref16_Table.j0]
    exact ev_pos trivial (ev_eq rfl)
  · simp only [parterreref16_Table.j0]
    exact ev_pos (decide_eq_true (by omega)) (ev_eq rfl)

/-! ### The same -/
theorem texts_l0 (l : List ByteArray) (hl : l.length ≤ 1000000) : ∀ (d j : Nat), j + d = l.length → Ev (fun k => parterreref06_Texts.l0 k l l (j : Nat)) true := by
  intro d
  induction d with
  | zero =>
    intro j hj
    refine ev_step ?_
    simp only [parterreref06_Texts.l0]
    exact ev_neg (by omega) (ev_eq rfl)
  | succ d ih =>
    intro j hj
    refine ev_step ?_
    simp only [parterreref06_Texts.l0]
    rw [w64 (x := (j : Int) + 1) (by omega) (by omega)]
    exact ev_pos (by omega) (ev_pos (by omega) (ev_pos (by omega) (ev_pos (by first | rfl | trivial) (ih (j + 1) (by omega)))))
theorem texts_ev (l : List ByteArray) (hl : l.length ≤ 1000000) : Ev (fun k => parterreref06_Texts.f k l l) true := by
  unfold parterreref06_Texts.f
  exact ev_pos rfl (texts_l0 l hl l.length 0 (by omega))
theorem law_l0 (x : List (List ByteArray)) (hx : x.length ≤ 1000000) (hx2 : ∀ i, (lineAt x i).length ≤ 1000000) : ∀ (d j : Nat), j + d = x.length → Ev (fun k => parterrelaw16_NamesTables.l0 k x x (x.length : Nat) (j : Nat)) true := by
  intro d
  induction d with
  | zero =>
    intro j hj
    refine ev_step ?_
    simp only [parterrelaw16_NamesTables.l0]
    exact ev_neg (by omega) (ev_bind_some lives_ev)
  | succ d ih =>
    intro j hj
    refine ev_step ?_
    simp only [parterrelaw16_NamesTables.l0]
    rw [rd_line, w64 (x := (j : Int) + 1) (by omega) (by omega)]
    exact ev_pos (by omega) (ev_pos (by omega) (ev_pos (by omega) (ev_pos (by omega) (ev_bind (texts_ev _ (hx2 j)) (ev_pos (by first | rfl | trivial) (ih (j + 1) (by omega)))))))
theorem law_same {t : List (List ByteArray)} {ar : List Ar} {rows : Bool} {m : Int} (x : List (List ByteArray)) (hx : x.length ≤ 1000000) (hx2 : ∀ i, (lineAt x i).length ≤ 1000000)
    (h1 : Ev (fun k => names_Table.f k t ar rows m) x) (h2 : Ev (fun k => parterreref16_Table.f k t ar rows m) x) : Ev (fun k => parterrelaw16_NamesTables.j0 k t ar rows m false) true := by
  refine ev_step ?_
  simp only [parterrelaw16_NamesTables.j0]
  exact ev_neg (by decide) (ev_bind h1 (ev_bind h2 (ev_pos (by first | rfl | trivial) (law_l0 x hx hx2 x.length 0 (by omega)))))
theorem law_lives (t : List (List ByteArray)) (ar : List Ar) (rows : Bool) (m : Int) : Ev (fun k => parterrelaw16_NamesTables.j0 k t ar rows m true) true := by
  refine ev_step ?_
  simp only [parterrelaw16_NamesTables.j0]
  exact ev_pos trivial (ev_bind_some lives_ev)
theorem law_no {t : List (List ByteArray)} {ar : List Ar} {rows : Bool} {m : Int} (h : m < 0 ∨ 10000 < m) : Ev (fun k => parterrelaw16_NamesTables.j0 k t ar rows m false) true :=
  law_same [] (by decide) (fun i => by simp [lineAt]) (nTable_no t ar rows h) (rTable_no t ar rows h)
end Go.Proofs.Ytaalmkkekbhpnaa.PureTb
namespace Go.Proofs.Ytaalmkkekbhpnaa.Pure
open Go.RowKit Go.Proofs.YtaalmkkekbhpnaaW.PrintWords Go.Proofs.YtaalmkkekbhpnaaW.PrintMore Go.Proofs.Ytaalmkkekbhpnaa.Evs Go.Proofs.Ytaalmkkekbhpnaa.Giv Go.Proofs.Ytaalmkkekbhpnaa.Opn Go.Proofs.Ytaalmkkekbhpnaa.PNb Go.Proofs.Ytaalmkkekbhpnaa.PureNb Go.Proofs.Ytaalmkkekbhpnaa.PureTb
theorem NamesTables : parterrelaw16_NamesTables.Pure := by
  intro t ar rows m hg ha hm
  have h1 := hg.1
  refine Ev.rounds ?_
  unfold parterrelaw16_NamesTables.f
  obtain ⟨b, hb, hl⟩ := light_ev t (by omega)
  refine ev_bind hb (ev_ite (fun h => ?_) (fun h => law_lives t ar rows m))
  have hl := hl h
  refine ev_ite (fun _ => law_lives t ar rows m) (fun h2 => ?_)
  have go : m ≤ 300 → Ev (fun k => parterrelaw16_NamesTables.j0 k t ar rows m false) true := by
    intro h3
    by_cases h4 : m < 0
    · exact law_no (Or.inl h4)
    · obtain ⟨n, rfl⟩ := Int.eq_ofNat_of_zero_le (show 0 ≤ m by omega)
      have hf : Fine t ar (n + 1) := ⟨hl, by omega, fun a ha2 => (ha.2 a ha2).1, by omega⟩
      refine law_same (tab (n + 1) (row t rows ar)) (by rw [tab_len]; omega) (fun i => ?_) (nTable rows hf) (rTable rows hf)
      by_cases hi : i < n + 1
      · rw [tab_at _ _ hi]
        have := len_row hf (rows := rows) i ar.length
        rw [List.take_length] at this
        show (lineAt t i ++ adds rows i ar).length ≤ 1000000
        omega
      · unfold lineAt
        rw [List.getD_eq_getElem?_getD, List.getElem?_eq_none (by rw [tab_len]; omega)]
        show 0 ≤ 1000000
        omega
  refine ev_ite (fun h3 => ?_) (fun h3 => go (by omega))
  by_cases h4 : m ≤ 10000
  · rw [decide_eq_true h4]
    exact law_lives t ar rows m
  · rw [decide_eq_false h4]
    exact law_no (Or.inr (by omega))
end Go.Proofs.Ytaalmkkekbhpnaa.Pure
