/- The value of a text that is a sign, digits, a point and digits, an exponent. Conditions: as each statement says. -/
import Derived.Test.YtfccpnpocfjbcaaDoorPNtx2
import Derived.Test.YtfccpnpocfjbcaaDoorPNtx6
import Derived.Test.YtfccpnpocfjbcaaDoorPureTw
set_option linter.unusedVariables false
set_option linter.unusedSimpArgs false
namespace Go.Proofs.YtfccpnpocfjbcaaDoor.PureSh
open Go.RowKit Go.Proofs.YtfccpnpocfjbcaaDoorW.PrintWords Go.Proofs.YtfccpnpocfjbcaaDoorW.PrintMore Go.Proofs.YtfccpnpocfjbcaaDoor.Evs Go.Proofs.YtfccpnpocfjbcaaDoor.Opn Go.Proofs.YtfccpnpocfjbcaaDoor.PNt Go.Proofs.YtfccpnpocfjbcaaDoor.Dig Go.Proofs.YtfccpnpocfjbcaaDoor.PureTu Go.Proofs.YtfccpnpocfjbcaaDoor.PureTv Go.Proofs.YtfccpnpocfjbcaaDoor.PureTw
/-! ### Bytes by lists -/
theorem get_mid (A D R : List Int) (i : Nat) (h : i < D.length) : (A ++ (D ++ R))[A.length + i]? = D[i]? := by
  rw [List.getElem?_append_right (by omega), Nat.add_sub_cancel_left, List.getElem?_append_left h]
theorem get_end (A D R : List Int) (i : Nat) : (A ++ (D ++ R))[A.length + D.length + i]? = R[i]? := by
  rw [List.getElem?_append_right (by omega), List.getElem?_append_right (by omega)]
  congr 1
  omega
theorem size_of {s : ByteArray} {l : List Int} (h : bytesOf s = l) : s.size = l.length := by rw [← h, bytesOf_length]
theorem bt_mid {s : ByteArray} {A D R : List Int} (h : bytesOf s = A ++ (D ++ R)) (i : Nat) (hi : i < D.length) : bt s ((A.length + i : Nat) : Int) = D[i] := by
  apply bt_of_bytes
  rw [h, get_mid A D R i hi, List.getElem?_eq_getElem hi]
theorem bt_end {s : ByteArray} {A D : List Int} {c : Int} {R : List Int} (h : bytesOf s = A ++ (D ++ c :: R)) : bt s ((A.length + D.length : Nat) : Int) = c := by
  apply bt_of_bytes
  rw [h]
  have := get_end A D (c :: R) 0
  rw [Nat.add_zero] at this
  rw [this]
  rfl
theorem bt_at0 {s : ByteArray} {A : List Int} {c : Int} {R : List Int} (h : bytesOf s = A ++ c :: R) : bt s ((A.length : Nat) : Int) = c := by
  have := bt_end (A := A) (D := []) (c := c) (R := R) h
  simpa using this
def AllD (l : List Int) : Prop := ∀ c ∈ l, isD c = true
theorem AllD.app {a b : List Int} (h : AllD a) (k : AllD b) : AllD (a ++ b) := fun c hc => by
  rcases List.mem_append.1 hc with hc | hc
  · exact h c hc
  · exact k c hc
theorem AllD.nil : AllD [] := fun c h => by cases h
theorem stop_list {s : ByteArray} {A D R : List Int} (h : bytesOf s = A ++ (D ++ R)) (hD : AllD D) (hR : ∀ c R', R = c :: R' → isD c = false) : number_parts.stop s A.length = A.length + D.length := by
  have hz := size_of h
  simp only [List.length_append] at hz
  refine stop_eq s _ A.length (A.length + D.length) rfl (by omega) (by omega) (fun m h1 h2 => ?_) (fun h1 => ?_)
  · obtain ⟨i, rfl⟩ := Nat.exists_eq_add_of_le h1
    rw [bt_mid h i (by omega)]
    exact hD _ (List.getElem_mem _)
  · match R, h, hR with
    | [], h, hR => simp only [List.length_nil] at hz; omega
    | c :: R', h, hR =>
      rw [bt_end h]
      exact hR c R' rfl
theorem sgn_list {s : ByteArray} {A sg R : List Int} (h : bytesOf s = A ++ (sg ++ R)) (hs : sg = [] ∨ sg = [43] ∨ sg = [45]) (hR : ∀ c R', R = c :: R' → c ≠ 43 ∧ c ≠ 45) : number_parts.sgn s A.length = A.length + sg.length := by
  have hz := size_of h
  simp only [List.length_append] at hz
  unfold number_parts.sgn number_parts.isSign
  rcases hs with rfl | rfl | rfl
  · match R, h, hR with
    | [], h, hR =>
      rw [decide_eq_false (by simp only [List.length_nil] at hz; omega)]
      rfl
    | c :: R', h, hR =>
      rw [bt_at0 h]
      have := hR c R' rfl
      rw [show (c == 43) = false by simpa using this.1, show (c == 45) = false by simpa using this.2]
      simp
  · rw [bt_at0 h, decide_eq_true (by simp only [List.length_cons] at hz; omega)]
    rfl
  · rw [bt_at0 h, decide_eq_true (by simp only [List.length_cons] at hz; omega)]
    rfl
theorem dig_mid {s : ByteArray} {A D R : List Int} (h : bytesOf s = A ++ (D ++ R)) : ((List.range D.length).map fun t => dig (bt s ((A.length + t : Nat) : Int))) = D.map dig := by
  apply List.ext_getElem?
  intro i
  by_cases hi : i < D.length
  · rw [List.getElem?_map, List.getElem?_range hi, List.getElem?_map, List.getElem?_eq_getElem hi]
    show some (dig (bt s ((A.length + i : Nat) : Int))) = _
    rw [bt_mid h i hi]
    rfl
  · rw [List.getElem?_eq_none (by rw [List.length_map, List.length_range]; omega), List.getElem?_eq_none (by rw [List.length_map]; omega)]

/-! ### The shape -/
def expL : List Int → Int → Int
  | [], n => n
  | c :: cs, n => expL cs (min 1000 (10 * n + (c - 48)))
theorem expF_list {s : ByteArray} : ∀ (D A : List Int) (n : Int), bytesOf s = A ++ D → expF s D.length A.length n = expL D n
  | [], A, n, h => rfl
  | c :: D, A, n, h => by
    show expF s D.length (A.length + 1) (min 1000 (10 * n + (bt s (A.length : Nat) - 48))) = expL D (min 1000 (10 * n + (c - 48)))
    rw [bt_at0 h]
    have := expF_list D (A ++ [c]) (min 1000 (10 * n + (c - 48))) (by rw [h]; simp)
    rw [List.length_append] at this
    exact this
def IsSg (sg : List Int) : Prop := sg = [] ∨ sg = [43] ∨ sg = [45]
/-- An exponent, and what it is worth. -/
def IsExp (E : List Int) (x : Int) : Prop := (E = [] ∧ x = 0) ∨ ∃ e sg xs, E = e :: (sg ++ xs) ∧ (e = 101 ∨ e = 69) ∧ IsSg sg ∧ xs ≠ [] ∧ AllD xs ∧ x = if sg = [45] then - expL xs 0 else expL xs 0
def pt (ds : List Int) : List Int := if ds = [] then [] else 46 :: ds
structure Sh (s : ByteArray) (sg W ds E : List Int) (x : Int) : Prop where
  b : bytesOf s = sg ++ (W ++ (pt ds ++ E))
  hs : IsSg sg
  hW : AllD W
  hds : AllD ds
  hE : IsExp E x
  ne : W ≠ [] ∨ ds ≠ []
theorem isD_sign {c : Int} (h : isD c = true) : c ≠ 43 ∧ c ≠ 45 ∧ c ≠ 46 ∧ c ≠ 101 ∧ c ≠ 69 := by
  have := of_decide_eq_true h
  omega
theorem IsExp.head {E : List Int} {x : Int} (h : IsExp E x) : ∀ c R, E = c :: R → c = 101 ∨ c = 69 := by
  intro c R hc
  rcases h with ⟨rfl, _⟩ | ⟨e, sg, xs, rfl, he, _⟩
  · cases hc
  · cases hc
    exact he
theorem not_isD {c : Int} (h : c = 46 ∨ c = 101 ∨ c = 69 ∨ c = 43 ∨ c = 45) : isD c = false := by
  unfold isD
  apply decide_eq_false
  omega
namespace Sh
variable {s : ByteArray} {sg W ds E : List Int} {x : Int}
theorem w0 (h : Sh s sg W ds E x) : number_parts.w0 s = sg.length := by
  have := sgn_list (A := []) (sg := sg) (R := W ++ (pt ds ++ E)) (s := s) h.b h.hs ?_
  · unfold number_parts.w0
    simpa using this
  · intro c R hc
    match W, h.hW, h.ne, hc with
    | w :: W', hW, _, hc =>
      cases hc
      have := isD_sign (hW _ List.mem_cons_self)
      exact ⟨this.1, this.2.1⟩
    | [], _, hne, hc =>
      have hd : ds ≠ [] := by rcases hne with k | k; · exact absurd rfl k
                              · exact k
      unfold pt at hc
      rw [if_neg hd] at hc
      cases hc
      decide
theorem rest_head (h : Sh s sg W ds E x) : ∀ c R, pt ds ++ E = c :: R → c = 46 ∨ c = 101 ∨ c = 69 := by
  intro c R hc
  unfold pt at hc
  by_cases hd : ds = []
  · rw [if_pos hd] at hc
    exact Or.inr (h.hE.head c R hc)
  · rw [if_neg hd] at hc
    cases hc
    exact Or.inl rfl
theorem w1 (h : Sh s sg W ds E x) : number_parts.w1 s = sg.length + W.length := by
  unfold number_parts.w1
  rw [h.w0]
  refine stop_list h.b h.hW (fun c R hc => not_isD ?_)
  have := h.rest_head c R hc
  omega
theorem b2 (h : Sh s sg W ds E x) : bytesOf s = (sg ++ W) ++ (pt ds ++ E) := by rw [h.b, List.append_assoc]
theorem l2 (sg W : List Int) : (sg ++ W).length = sg.length + W.length := List.length_append
theorem size (h : Sh s sg W ds E x) : s.size = sg.length + W.length + ((pt ds).length + E.length) := by
  rw [size_of h.b2]
  simp only [List.length_append]
theorem at2 (h : Sh s sg W ds E x) : number_parts.at2 s = sg.length + W.length + (pt ds).length := by
  have hz := h.size
  by_cases hd : ds = []
  · have hp : pt ds = [] := by unfold pt; rw [if_pos hd]
    have hdot : number_parts.isDot s (number_parts.w1 s) = false := by
      unfold number_parts.isDot
      rw [h.w1]
      match E, h, hz with
      | [], h, hz =>
        rw [decide_eq_false (by rw [hp] at hz; simp only [List.length_nil] at hz; omega)]
        rfl
      | e :: E', h, hz =>
        have hb := h.b2
        rw [hp, List.nil_append] at hb
        have := bt_at0 hb
        rw [l2] at this
        rw [this]
        have he := h.hE.head e E' rfl
        rw [show (e == 46) = false by simp; omega]
        simp
    unfold number_parts.at2
    rw [if_neg (by rw [hdot]; decide), h.w1, hp]
    rfl
  · have hp : pt ds = 46 :: ds := by unfold pt; rw [if_neg hd]
    have hlen := List.length_pos_iff.2 hd
    have hb := h.b2
    rw [hp] at hb
    have hdot : number_parts.isDot s (number_parts.w1 s) = true := by
      unfold number_parts.isDot
      rw [h.w1]
      have := bt_at0 (A := sg ++ W) (c := 46) (R := ds ++ E) (s := s) hb
      rw [l2] at this
      rw [this, decide_eq_true (by rw [hp] at hz; simp only [List.length_cons] at hz; omega)]
      rfl
    have hb3 : bytesOf s = (sg ++ W ++ [46]) ++ (ds ++ E) := by rw [hb]; simp
    have hl3 : (sg ++ W ++ [46]).length = sg.length + W.length + 1 := by simp only [List.length_append, List.length_cons, List.length_nil]
    have hst := stop_list hb3 h.hds (fun c R hc => not_isD (Or.inr (by have := h.hE.head c R hc; omega)))
    rw [hl3] at hst
    unfold number_parts.at2 number_parts.p1
    rw [if_pos hdot, if_pos hdot, h.w1, hst, if_neg (by omega), hp, List.length_cons]
    omega
theorem pt_len (ds : List Int) : (pt ds).length = if ds = [] then 0 else ds.length + 1 := by
  unfold pt
  split <;> simp
theorem pn_eq (h : Sh s sg W ds E x) : pn s = ds.length := by
  unfold pn
  rw [h.at2, h.w1, pt_len]
  by_cases hd : ds = []
  · rw [if_pos hd, hd]
    simp
  · rw [if_neg hd]
    omega
theorem dl_eq (h : Sh s sg W ds E x) : dl s = (W ++ ds).map dig := by
  unfold dl
  rw [h.w1, h.w0, h.pn_eq, Nat.add_sub_cancel_left, List.map_append, dig_mid h.b]
  congr 1
  by_cases hd : ds = []
  · rw [hd]
    rfl
  · have hp : pt ds = 46 :: ds := by unfold pt; rw [if_neg hd]
    have hb := h.b2
    rw [hp] at hb
    have hb3 : bytesOf s = (sg ++ W ++ [46]) ++ (ds ++ E) := by rw [hb]; simp
    have hl3 : (sg ++ W ++ [46]).length = sg.length + W.length + 1 := by simp only [List.length_append, List.length_cons, List.length_nil]
    have := dig_mid hb3
    rw [hl3] at this
    exact this
theorem noNum_eq (h : Sh s sg W ds E x) : noNum s = false := by
  unfold noNum
  apply decide_eq_false
  rw [h.w1, h.w0, h.at2, pt_len]
  intro k
  rcases h.ne with k1 | k1
  · have := List.length_pos_iff.2 k1
    omega
  · rw [if_neg k1] at k
    omega
/-- The exponent, and the end. -/
theorem exp (h : Sh s sg W ds E x) : endOf s = s.size ∧ X s = x := by
  have hz := h.size
  have ha := h.at2
  have hl3 : (sg ++ W ++ pt ds).length = sg.length + W.length + (pt ds).length := by simp only [List.length_append]
  have hb : bytesOf s = (sg ++ W ++ pt ds) ++ E := by rw [h.b]; simp
  rcases h.hE with ⟨rfl, rfl⟩ | ⟨e, sE, xs, rfl, he, hsE, hxs, hxd, rfl⟩
  · have hE : number_parts.hasE s = false := by
      unfold number_parts.hasE number_parts.isE
      rw [ha, decide_eq_false (by simp only [List.length_nil] at hz; omega)]
      rfl
    unfold endOf X
    rw [if_neg (by rw [hE]; decide), if_neg (by rw [hE]; decide), ha]
    exact ⟨by simp only [List.length_nil] at hz; omega, rfl⟩
  · have hb4 : bytesOf s = (sg ++ W ++ pt ds ++ [e]) ++ (sE ++ xs) := by rw [hb]; simp
    have hl4 : (sg ++ W ++ pt ds ++ [e]).length = number_parts.at2 s + 1 := by rw [List.length_append, hl3, ha]; rfl
    have hb5 : bytesOf s = (sg ++ W ++ pt ds ++ [e] ++ sE) ++ (xs ++ []) := by rw [hb4]; simp
    have hl5 : (sg ++ W ++ pt ds ++ [e] ++ sE).length = number_parts.at2 s + 1 + sE.length := by rw [List.length_append, hl4]
    have hlen := List.length_pos_iff.2 hxs
    have hisE : number_parts.isE s (number_parts.at2 s) = true := by
      unfold number_parts.isE
      have := bt_at0 hb
      rw [hl3, ← ha] at this
      rw [this, decide_eq_true (by simp only [List.length_cons] at hz; omega)]
      rcases he with rfl | rfl <;> rfl
    have hx0 : number_parts.x0 s = number_parts.at2 s + 1 + sE.length := by
      unfold number_parts.x0
      rw [← hl4]
      refine sgn_list hb4 hsE (fun c R hc => ?_)
      have := isD_sign (hxd c (by rw [hc]; exact List.mem_cons_self))
      exact ⟨this.1, this.2.1⟩
    have hx1 : number_parts.x1 s = number_parts.at2 s + 1 + sE.length + xs.length := by
      unfold number_parts.x1
      rw [hx0, ← hl5]
      exact stop_list hb5 hxd (fun c R hc => by cases hc)
    have hsz : s.size = number_parts.at2 s + 1 + sE.length + xs.length := by
      rw [hz, ha]
      simp only [List.length_cons, List.length_append]
      omega
    have hE : number_parts.hasE s = true := by
      unfold number_parts.hasE
      rw [hisE, decide_eq_true (by omega)]
      rfl
    unfold endOf X
    rw [if_pos hE, if_pos hE]
    refine ⟨by omega, ?_⟩
    have hex : expF s (s.size - number_parts.x0 s) (number_parts.x0 s) 0 = expL xs 0 := by
      have := expF_list (s := s) xs (sg ++ W ++ pt ds ++ [e] ++ sE) 0 (by rw [hb5]; simp)
      rw [hl5, ← hx0] at this
      rw [show s.size - number_parts.x0 s = xs.length by omega]
      exact this
    rw [hex]
    have hbt : bt s ((number_parts.at2 s + 1 : Nat) : Int) = 45 ↔ sE = [45] := by
      rw [← hl4]
      match xs, hxd, hxs, hb4 with
      | y :: ys, hxd, _, hb4 =>
        rcases hsE with rfl | rfl | rfl
        · rw [bt_at0 hb4]
          have := isD_sign (hxd y List.mem_cons_self)
          exact ⟨fun k => absurd k this.2.1, fun k => by cases k⟩
        · rw [bt_at0 hb4]
          decide
        · rw [bt_at0 hb4]
          decide
    by_cases k : sE = [45]
    · rw [if_pos k, if_pos (hbt.2 k)]
    · rw [if_neg k, if_neg (fun j => k (hbt.1 j))]
theorem neg (h : Sh s sg W ds E x) : bt s 0 = 45 ↔ sg = [45] := by
  have hb := h.b
  rcases h.hs with rfl | rfl | rfl
  · refine ⟨fun k => ?_, fun k => by cases k⟩
    exfalso
    match W, h, hb with
    | w :: W', h, hb =>
      have := bt_at0 (A := []) hb
      have h2 := isD_sign (h.hW w List.mem_cons_self)
      exact h2.2.1 (this.symm.trans k)
    | [], h, hb =>
      have hd : ds ≠ [] := by
        rcases h.ne with k | k
        · exact absurd rfl k
        · exact k
      have hp : pt ds = 46 :: ds := by unfold pt; rw [if_neg hd]
      rw [hp] at hb
      have := bt_at0 (A := []) hb
      have h2 : (46 : Int) = 45 := this.symm.trans k
      omega
  · have := bt_at0 (A := []) hb
    have h2 : bt s 0 = 43 := this
    rw [h2]
    decide
  · have := bt_at0 (A := []) hb
    have h2 : bt s 0 = 45 := this
    rw [h2]
    decide
end Sh
def fo (A : Int) (l : List Int) : Int := l.foldl (fun a d => 10 * a + d) A
theorem Lw_app (W : Int) : ∀ (a b : List Int), Lw (a ++ b) W = Lw a (Lw b W)
  | [], b => rfl
  | x :: a, b => by
    show x + 10 * Lw (a ++ b) W = x + 10 * Lw a (Lw b W)
    rw [Lw_app W a b]
theorem Lw_rev : ∀ (l : List Int) (A : Int), Lw l.reverse A = fo A l
  | [], A => rfl
  | x :: xs, A => by
    rw [List.reverse_cons, Lw_app, Lw_rev xs]
    show fo (x + 10 * A) xs = fo (10 * A + x) xs
    rw [Int.add_comm]
theorem L_rev (l : List Int) : L l.reverse = fo 0 l := by rw [← Lw_zero, Lw_rev]
theorem fo_app (A : Int) (a b : List Int) : fo A (a ++ b) = fo (fo A a) b := List.foldl_append
theorem fo_zeros : ∀ (n : Nat) (A : Int), fo A (List.replicate n 0) = m10 A n
  | 0, A => rfl
  | n + 1, A => by
    show fo (10 * A + 0) (List.replicate n 0) = m10 (10 * A) n
    rw [Int.add_zero]
    exact fo_zeros n _
/-- What a text of this shape is worth. -/
theorem Sh.val {s : ByteArray} {sg W ds E : List Int} {x : Int} (h : Sh s sg W ds E x) (hz : s.size ≤ 300) {sc : Int} (hsc : IsScale sc) :
    Val s sc = if S (fo 0 ((W ++ ds).map dig) * sc) ((ds.length : Int) - x) ≤ 68719476736 then (if sg = [45] then (- S (fo 0 ((W ++ ds).map dig) * sc) ((ds.length : Int) - x), 0) else (S (fo 0 ((W ++ ds).map dig) * sc) ((ds.length : Int) - x), 0)) else (0, 10) := by
  have he := h.exp
  have hn := h.noNum_eq
  unfold Val
  rw [if_pos (show sc = 1 ∨ sc = 64 ∨ sc = 1000 from hsc), if_neg (by rw [hn, he.1]; simp; exact hz)]
  unfold V
  rw [h.dl_eq, h.pn_eq, he.2, L_rev]
  by_cases k : S (fo 0 ((W ++ ds).map dig) * sc) ((ds.length : Int) - x) ≤ 68719476736
  · rw [if_pos k, if_pos k]
    by_cases k2 : sg = [45]
    · rw [if_pos k2, if_pos (h.neg.2 k2)]
    · rw [if_neg k2, if_neg (fun j => k2 (h.neg.1 j))]
  · rw [if_neg k, if_neg k]
/-- So many noughts more, and the point as far behind: no other value. -/
theorem S_m10 {B : Int} (hB : 0 ≤ B) (j : Nat) : S (m10 B j) (j : Int) = B := by
  unfold S
  rw [if_neg (by omega), Int.toNat_natCast, q_m10]
  cases j with
  | zero =>
    rw [if_neg (by omega)]
    omega
  | succ j =>
    rw [Nat.add_sub_cancel]
    have : q (m10 B (j + 1)) j = 10 * B := by
      show q (m10 (10 * B) j) j = 10 * B
      exact q_m10 j _
    rw [this, if_neg (by omega)]
    omega
end Go.Proofs.YtfccpnpocfjbcaaDoor.PureSh
