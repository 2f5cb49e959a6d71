/- Digits times a scale, rounded: by the program and by the document. Conditions: as each statement says. -/
import Derived.Test.YtfccpnpocfjbcaaDoorPNtx4
import Derived.Test.YtfccpnpocfjbcaaDoorDig
set_option linter.unusedVariables false
set_option linter.unusedSimpArgs false
namespace Go.Proofs.YtfccpnpocfjbcaaDoor.PureTv
open Go.RowKit Go.Proofs.YtfccpnpocfjbcaaDoorW.PrintWords Go.Proofs.YtfccpnpocfjbcaaDoorW.PrintMore Go.Proofs.YtfccpnpocfjbcaaDoor.Evs Go.Proofs.YtfccpnpocfjbcaaDoor.Opn Go.Proofs.YtfccpnpocfjbcaaDoor.PNt Go.Proofs.YtfccpnpocfjbcaaDoor.Dig
def IsScale (sc : Int) : Prop := sc = 1 ∨ sc = 64 ∨ sc = 1000
theorem IsScale.bd {sc : Int} (h : IsScale sc) : 1 ≤ sc ∧ sc ≤ 1000 := by
  rcases h with rfl | rfl | rfl <;> decide

/-! ### The document's product -/
theorem rd_at (pre : List Int) (x : Int) (rest : List Int) : rd (pre ++ x :: rest) ((pre.length : Nat) : Int) = x := by
  unfold rd
  rw [Int.toNat_natCast, List.getD_eq_getElem?_getD, List.getElem?_append_right (Nat.le_refl _), Nat.sub_self]
  rfl
/-! ### The document's rounding -/
/-! ### The program's product -/
theorem rd_rev (l : List Int) (h : l ≠ []) : rd l.reverse 0 = l.getD (l.length - 1) 0 := by
  have h1 := List.length_pos_iff.2 h
  unfold rd
  rw [List.getD_eq_getElem?_getD, List.getD_eq_getElem?_getD, show (0 : Int).toNat = 0 from rfl, List.getElem?_reverse h1]
  rfl
def fin (sc W : Int) (l : List Int) (c : Int) : Int := W * sc + c + (if (l.length : Int) > 0 ∧ rd l 0 ≥ 5 then 1 else 0)
theorem set_mid (pre : List Int) (x y : Int) (done : List Int) : ((pre ++ x :: done).set pre.length y) = pre ++ y :: done := by
  rw [List.set_append_right _ _ (Nat.le_refl _), Nat.sub_self]
  rfl
theorem l3_ev {sc : Int} (hs : IsScale sc) (W : Int) (hW : 0 ≤ W) (hW2 : W ≤ 10000000000000) : ∀ (lo done : List Int) (c : Int), Dg lo → 0 ≤ c → c < sc → lo.length + done.length ≤ 1000000 →
    Ev (fun k => number_scaled.l3 k sc W (lo.reverse ++ done) c ((lo.length : Int) - 1)) (fin sc W ((mulLow sc lo c).reverse ++ done) (carry sc lo c), decide (fin sc W ((mulLow sc lo c).reverse ++ done) (carry sc lo c) ≤ 68719476736))
  | [], done, c, hd, h0, h1, hl => by
    have hb := hs.bd
    have hws : 0 ≤ W * sc ∧ W * sc ≤ 10000000000000000 := by
      rcases hs with rfl | rfl | rfl <;> omega
    refine ev_step ?_
    simp only [number_scaled.l3]
    refine ev_neg (by simp) ?_
    show Ev _ (fin sc W done c, decide (fin sc W done c ≤ 68719476736))
    simp only [List.reverse_nil, List.nil_append]
    rw [w64 (x := W * sc) (by omega) (by omega), w64 (x := W * sc + c) (by omega) (by omega), w64 (x := W * sc + c + 1) (by omega) (by omega)]
    refine ev_ite (fun h2 => ev_pos (by omega) (ev_ite (fun h3 => ?_) (fun h3 => ?_))) (fun h2 => ?_)
    · have : fin sc W done c = W * sc + c + 1 := by unfold fin; rw [if_pos ⟨h2, h3⟩]
      rw [this]
      exact ev_eq rfl
    · have : fin sc W done c = W * sc + c := by unfold fin; rw [if_neg (fun k => h3 k.2)]; omega
      rw [this]
      exact ev_eq rfl
    · have : fin sc W done c = W * sc + c := by unfold fin; rw [if_neg (fun k => h2 k.1)]; omega
      rw [this]
      exact ev_eq rfl
  | x :: lo, done, c, hd, h0, h1, hl => by
    have hb := hs.bd
    have hx := hd.head
    have hm := mul_bd hx (show 0 ≤ sc by omega)
    have hlen : (x :: lo).length = lo.length + 1 := rfl
    refine ev_step ?_
    simp only [number_scaled.l3]
    have e0 : (x :: lo).reverse ++ done = lo.reverse ++ x :: done := by simp
    have e1 : (((x :: lo).length : Nat) : Int) - 1 = ((lo.reverse.length : Nat) : Int) := by rw [List.length_reverse, hlen]; omega
    rw [e0, e1]
    have e2 : rd (lo.reverse ++ x :: done) ((lo.reverse.length : Nat) : Int) = x := rd_at _ _ _
    have e3 : (((lo.reverse.length : Nat) : Int)).toNat = lo.reverse.length := Int.toNat_natCast _
    have hl2 : (lo.reverse ++ x :: done).length = lo.length + 1 + done.length := by simp only [List.length_append, List.length_reverse, List.length_cons]; omega
    have hl3 : lo.reverse.length = lo.length := List.length_reverse
    refine ev_pos (by omega) (ev_pos (by omega) (ev_pos (by omega) ?_))
    rw [e2, e3, set_mid, w64 (x := x) (by omega) (by omega), w64 (x := x * sc) (by omega) (by omega), w64 (x := x * sc + c) (by omega) (by omega), Int.tmod_eq_emod_of_nonneg (by omega), Int.tdiv_eq_ediv_of_nonneg (by omega), w64 (x := (x * sc + c) / 10) (by omega) (by omega),
      show ((x * sc + c) % 10) % 256 = (x * sc + c) % 10 by omega, w64 (x := ((lo.reverse.length : Nat) : Int) - 1) (by omega) (by omega), hl3]
    have hi := l3_ev hs W hW hW2 lo (((x * sc + c) % 10) :: done) ((x * sc + c) / 10) hd.tail (by omega) (by omega) (by simp only [List.length_cons] at hl ⊢; omega)
    have e4 : (mulLow sc (x :: lo) c).reverse ++ done = (mulLow sc lo ((x * sc + c) / 10)).reverse ++ ((x * sc + c) % 10) :: done := by
      show (((x * sc + c) % 10) :: mulLow sc lo ((x * sc + c) / 10)).reverse ++ done = _
      simp
    rw [e4]
    exact hi
theorem l2_ev (d : List Int) (hd : d.length ≤ 10000) (point sc W : Int) (hp : -10000 ≤ point ∧ point ≤ 10000) (r : Int × Bool)
    (h : Ev (fun k => number_scaled.l3 k sc W (List.replicate (-point).toNat 0 ++ d.drop (min d.length point.toNat)) 0 (((List.replicate (-point).toNat (0 : Int) ++ d.drop (min d.length point.toNat)).length : Int) - 1)) r) :
    ∀ (j i : Nat), i + j = (-point).toNat → Ev (fun k => number_scaled.l2 k d point sc W (List.replicate i 0) (mx 0 (wrap64 (-point))) (i : Nat)) r
  | 0, i, hij => by
    obtain rfl : i = (-point).toNat := by omega
    refine ev_step ?_
    simp only [number_scaled.l2]
    rw [mx_eq, mn_eq, mx_eq, w64 (x := -point) (by omega) (by omega)]
    have e : (min (d.length : Int) (max 0 point)).toNat = min d.length point.toNat := by omega
    refine ev_neg (by omega) (ev_pos (by omega) (ev_pos (by omega) ?_))
    rw [e]
    refine ev_bindc rfl (ev_pos (by simp only [List.length_replicate, List.length_drop]; omega) (ev_bindc rfl ?_))
    rw [w64 (by simp only [List.length_append, List.length_replicate, List.length_drop]; omega) (by simp only [List.length_append, List.length_replicate, List.length_drop]; omega)]
    exact h
  | j + 1, i, hij => by
    refine ev_step ?_
    simp only [number_scaled.l2]
    rw [mx_eq, w64 (x := -point) (by omega) (by omega)]
    refine ev_pos (by omega) (ev_pos (by simp only [List.length_replicate]; omega) ?_)
    have hi := l2_ev d hd point sc W hp r h j (i + 1) (by omega)
    rw [mx_eq, w64 (x := -point) (by omega) (by omega)] at hi
    rw [w64 (x := (i : Int) + 1) (by omega) (by omega), show List.replicate i (0 : Int) ++ [0] = List.replicate (i + 1) 0 from List.replicate_succ'.symm]
    exact hi
theorem l1_ev (d : List Int) (hg : Dg d) (hd : d.length ≤ 10000) (point sc : Int) (hp : -10000 ≤ point ∧ point ≤ 13) (r : Int × Bool)
    (h : Ev (fun k => number_scaled.l2 k d point sc (hv d point.toNat) [] (mx 0 (wrap64 (-point))) 0) r) :
    ∀ (j i : Nat), i + j = point.toNat → Ev (fun k => number_scaled.l1 k d point sc (hv d i) (mx 0 point) (i : Nat)) r
  | 0, i, hij => by
    obtain rfl : i = point.toNat := by omega
    refine ev_step ?_
    simp only [number_scaled.l1]
    rw [mx_eq 0 point]
    exact ev_neg (by omega) h
  | j + 1, i, hij => by
    have h0 := hv_nonneg hg i
    have h1 := hv_lt hg i
    have h2 := m10_13 (i := i) (by omega)
    have hx := hg.get i
    refine ev_step ?_
    simp only [number_scaled.l1]
    rw [mx_eq 0 point]
    refine ev_pos (by omega) ?_
    have hi := l1_ev d hg hd point sc hp r h j (i + 1) (by omega)
    rw [mx_eq 0 point] at hi
    have e : rd d ((i : Nat) : Int) = d.getD i 0 := by unfold rd; rw [Int.toNat_natCast]
    have e1 : hv d (i + 1) = 10 * hv d i + d.getD i 0 := rfl
    rw [e, w64 (x := hv d i * 10) (by omega) (by omega), w64 (x := d.getD i 0) (by omega) (by omega), w64 (x := hv d i * 10 + d.getD i 0) (by omega) (by omega), w64 (x := (i : Int) + 1) (by omega) (by omega)]
    refine ev_ite (fun h3 => ev_pos (by omega) ?_) (fun h3 => ?_)
    · rw [show hv d i * 10 + d.getD i 0 = hv d (i + 1) by omega]
      exact hi
    · have e2 : d.getD i 0 = 0 := by
        rw [List.getD_eq_getElem?_getD, List.getElem?_eq_none (by omega)]
        rfl
      rw [show hv d i * 10 = hv d (i + 1) by omega]
      exact hi
/-- What the loop over the low digits tells is the rounded value. -/
theorem fin_S {sc : Int} (hs : IsScale sc) (d : List Int) (hg : Dg d) (point : Int) :
    fin sc (hv d point.toNat) ((mulLow sc (List.replicate (-point).toNat 0 ++ d.drop (min d.length point.toNat)).reverse 0).reverse) (carry sc (List.replicate (-point).toNat 0 ++ d.drop (min d.length point.toNat)).reverse 0) = S (L d.reverse * sc) ((d.length : Int) - point) := by
  have hb := hs.bd
  have key : ∀ (lo : List Int) (W : Int), Lw lo W = L d.reverse → (lo.length : Int) = (d.length : Int) - point → fin sc W (mulLow sc lo 0).reverse (carry sc lo 0) = S (L d.reverse * sc) ((d.length : Int) - point) := by
    intro lo W h1 h2
    have e1 := carry_q sc W lo 0
    rw [h1, Int.add_zero] at e1
    unfold S
    rw [if_neg (by omega), show ((d.length : Int) - point).toNat = lo.length by omega, e1]
    unfold fin
    rw [List.length_reverse, mulLow_len]
    congr 1
    by_cases h3 : lo = []
    · rw [h3] at h2 ⊢
      rw [if_neg (by simp), if_neg (by simp only [List.length_nil] at h2; omega)]
    · have h4 := List.length_pos_iff.2 h3
      have h5 : mulLow sc lo 0 ≠ [] := by
        intro k
        have := mulLow_len sc lo 0
        rw [k] at this
        simp only [List.length_nil] at this
        omega
      rw [rd_rev _ h5, mulLow_len, mulLow_get sc W lo 0 (lo.length - 1) (by omega), h1, Int.add_zero]
      by_cases h6 : q (L d.reverse * sc) (lo.length - 1) % 10 ≥ 5
      · rw [if_pos ⟨by omega, h6⟩, if_pos ⟨by omega, h6⟩]
      · rw [if_neg (fun k => h6 k.2), if_neg (fun k => h6 k.2)]
  by_cases h1 : point < 0
  · have e : point.toNat = 0 := by omega
    rw [e, Nat.min_zero, List.drop_zero]
    have e2 : (List.replicate (-point).toNat (0 : Int) ++ d).reverse = d.reverse ++ List.replicate (-point).toNat 0 := by rw [List.reverse_append, List.reverse_replicate]
    rw [e2]
    refine key _ _ ?_ ?_
    · show Lw (d.reverse ++ List.replicate (-point).toNat 0) 0 = L d.reverse
      rw [Lw_zero, L_app_zeros]
    · rw [List.length_append, List.length_reverse, List.length_replicate]
      omega
  · have e : (-point).toNat = 0 := by omega
    rw [e]
    by_cases h2 : point ≤ d.length
    · have e2 : min d.length point.toNat = point.toNat := by omega
      rw [e2]
      show fin sc (hv d point.toNat) (mulLow sc (d.drop point.toNat).reverse 0).reverse (carry sc (d.drop point.toNat).reverse 0) = _
      refine key _ _ ?_ ?_
      · rw [hv_take _ (by omega), ← L_app, ← List.reverse_append, List.take_append_drop]
      · rw [List.length_reverse, List.length_drop]
        omega
    · have e2 : min d.length point.toNat = d.length := by omega
      rw [e2, List.drop_length]
      obtain ⟨j, hj⟩ : ∃ j : Nat, point.toNat = d.length + j := ⟨point.toNat - d.length, by omega⟩
      rw [hj, hv_more, hv_take _ (Nat.le_refl _), List.take_length]
      unfold S
      rw [if_pos (show (d.length : Int) - point < 0 by omega), show (-((d.length : Int) - point)).toNat = j by omega, m10_mul]
      show m10 (L d.reverse) j * sc + 0 + (if ((([] : List Int).length : Nat) : Int) > 0 ∧ rd [] 0 ≥ 5 then 1 else 0) = _
      rw [if_neg (by simp)]
      omega
/-- The program's rounded value, of digits that do not begin with a nought. -/
theorem j1_ev {sc : Int} (hs : IsScale sc) (d : List Int) (hg : Dg d) (hd : d.length ≤ 10000) (point : Int) (hp : -10000 ≤ point ∧ point ≤ 10000) (hne : ∀ x xs, d = x :: xs → 1 ≤ x) :
    ∃ n ok, Ev (fun k => number_scaled.j1 k d point sc) (n, ok) ∧ (ok = true → n = S (L d.reverse * sc) ((d.length : Int) - point) ∧ n ≤ 68719476736) ∧ (ok = false → 68719476736 < S (L d.reverse * sc) ((d.length : Int) - point)) := by
  have hb := hs.bd
  by_cases h0 : d = []
  · subst h0
    refine ⟨0, true, ev_step ?_, fun _ => ⟨?_, by decide⟩, fun h => by cases h⟩
    · simp only [number_scaled.j1]
      refine ev_pos rfl (ev_step ?_)
      simp only [number_scaled.j2]
      exact ev_pos trivial (ev_eq rfl)
    · show 0 = S (0 * sc) _
      rw [Int.zero_mul, S_zero]
  · have hl := List.length_pos_iff.2 h0
    have hr : d.reverse ≠ [] := by simpa using h0
    have hlast : 1 ≤ d.reverse.getLast hr := by
      rw [List.getLast_reverse]
      match d, h0, hne with
      | x :: xs, _, hne => exact hne x xs rfl
    have hlr : d.reverse.length = d.length := List.length_reverse
    by_cases h1 : point < -5
    · refine ⟨0, true, ev_step ?_, fun _ => ⟨?_, by decide⟩, fun h => by cases h⟩
      · simp only [number_scaled.j1]
        refine ev_neg (by omega) (ev_step ?_)
        simp only [number_scaled.j2]
        exact ev_pos (decide_eq_true h1) (ev_eq rfl)
      · have := S_small hb.1 hb.2 hg.rev h1
        rw [hlr] at this
        exact this.symm
    · by_cases h2 : point > 13
      · refine ⟨0, false, ev_step ?_, (fun h => by cases h), fun _ => ?_⟩
        · simp only [number_scaled.j1]
          refine ev_neg (by omega) (ev_step ?_)
          simp only [number_scaled.j2]
          exact ev_neg (by simp; omega) (ev_pos h2 (ev_eq rfl))
        · have := S_big hb.1 hg.rev hr hlast h2
          rw [hlr] at this
          exact this
      · have e := fin_S hs d hg point
        have hW := hv_nonneg hg point.toNat
        have hW2 := hv_lt hg point.toNat
        have hW3 := m10_13 (i := point.toNat) (by omega)
        have hlo : Dg (List.replicate (-point).toNat 0 ++ d.drop (min d.length point.toNat)).reverse := ((Dg.zeros _).app (hg.drop _)).rev
        have hll : (List.replicate (-point).toNat (0 : Int) ++ d.drop (min d.length point.toNat)).length ≤ 20000 := by
          rw [List.length_append, List.length_replicate, List.length_drop]
          omega
        have h3 := l3_ev hs (hv d point.toNat) hW (by omega) (List.replicate (-point).toNat 0 ++ d.drop (min d.length point.toNat)).reverse [] 0 hlo (by omega) (by omega) (by rw [List.length_reverse]; simp only [List.length_nil]; omega)
        rw [List.append_nil, List.append_nil, List.reverse_reverse, List.length_reverse, e] at h3
        refine ⟨_, _, ev_step ?_, fun h => ⟨rfl, of_decide_eq_true h⟩, fun h => ?_⟩
        · simp only [number_scaled.j1]
          refine ev_neg (by omega) (ev_step ?_)
          simp only [number_scaled.j2]
          refine ev_neg (by simp; omega) (ev_neg h2 ?_)
          exact l1_ev d hg hd point sc (by omega) _ (l2_ev d hd point sc _ (by omega) _ h3 (-point).toNat 0 (by omega)) point.toNat 0 (by omega)
        · have := of_decide_eq_false h
          omega
/-- THE PROGRAM's ROUNDED VALUE. -/
theorem scaled_ev {sc : Int} (hs : IsScale sc) : ∀ (d : List Int), Dg d → d.length ≤ 10000 → ∀ (point : Int), -9000 + d.length ≤ point + 1000 → point ≤ 9000 → 
    ∃ n ok, Ev (fun k => number_scaled.f k d point sc) (n, ok) ∧ (ok = true → n = S (L d.reverse * sc) ((d.length : Int) - point) ∧ n ≤ 68719476736) ∧ (ok = false → 68719476736 < S (L d.reverse * sc) ((d.length : Int) - point))
  | [], hg, hd, point, hp1, hp2 => by
    obtain ⟨n, ok, h1, h2, h3⟩ := j1_ev hs [] hg hd point (by simp only [List.length_nil] at hp1; omega) (fun x xs h => by cases h)
    refine ⟨n, ok, ev_step ?_, h2, h3⟩
    simp only [number_scaled.f, number_scaled.l0]
    exact ev_neg (by simp) h1
  | x :: xs, hg, hd, point, hp1, hp2 => by
    have hx := hg.head
    have hlen : (x :: xs).length = xs.length + 1 := rfl
    have er : rd (x :: xs) 0 = x := rfl
    by_cases h0 : x = 0
    · subst h0
      obtain ⟨n, ok, h1, h2, h3⟩ := scaled_ev hs xs hg.tail (by omega) (point - 1) (by omega) (by omega)
      have eL : L (0 :: xs).reverse = L xs.reverse := by
        rw [List.reverse_cons, show ([0] : List Int) = List.replicate 1 0 from rfl, L_app_zeros]
      have eb : (((0 :: xs : List Int).length : Nat) : Int) - point = (xs.length : Int) - (point - 1) := by rw [List.length_cons]; omega
      rw [eL, eb]
      refine ⟨n, ok, ev_step ?_, h2, h3⟩
      simp only [number_scaled.f, number_scaled.l0]
      rw [w64 (x := point - 1) (by omega) (by omega)]
      refine ev_pos (by rw [List.length_cons]; omega) (ev_pos (by rw [List.length_cons]; omega) (ev_pos er (ev_pos (by rw [List.length_cons]; omega) ?_)))
      exact h1
    · obtain ⟨n, ok, h1, h2, h3⟩ := j1_ev hs (x :: xs) hg hd point (by omega) (fun y ys h => by cases h; omega)
      refine ⟨n, ok, ev_step ?_, h2, h3⟩
      simp only [number_scaled.f, number_scaled.l0]
      refine ev_pos (by rw [List.length_cons]; omega) (ev_pos (by rw [List.length_cons]; omega) (ev_neg (by rw [er]; exact h0) ?_))
      exact h1
end Go.Proofs.YtfccpnpocfjbcaaDoor.PureTv
