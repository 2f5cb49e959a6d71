/- NamesRising, as a statement on lists and numbers. Conditions: none beyond the arguments' own kinds. -/
import Derived.Test.YtbjjmilbilapnaaPNmx7
import Derived.Test.YtbjjmilbilapnaaPureNm
set_option linter.unusedVariables false
set_option linter.unusedSimpArgs false
namespace Go.Proofs.Ytbjjmilbilapnaa.Pure
open Go.RowKit Go.Proofs.YtbjjmilbilapnaaW.PrintWords Go.Proofs.YtbjjmilbilapnaaW.PrintMore Go.Proofs.Ytbjjmilbilapnaa.Evs Go.Proofs.Ytbjjmilbilapnaa.Giv Go.Proofs.Ytbjjmilbilapnaa.Opn Go.Proofs.Ytbjjmilbilapnaa.PNm Go.Proofs.Ytbjjmilbilapnaa.PureNm

theorem get_mem {l : List Int} {i : Nat} (h : i < l.length) : l.getD i 0 ∈ l := by
  rw [List.getD_eq_getElem?_getD, List.getElem?_eq_getElem h]
  exact List.getElem_mem h
theorem get_lt {l : List Int} (hp : l.Pairwise (· < ·)) {i j : Nat} (h : i < j) (hj : j < l.length) : l.getD i 0 < l.getD j 0 := by
  rw [List.getD_eq_getElem?_getD, List.getD_eq_getElem?_getD, List.getElem?_eq_getElem hj, List.getElem?_eq_getElem (by omega)]
  exact (List.pairwise_iff_getElem.1 hp) i j (by omega) hj h
theorem get_gt {l : List Int} (hp : l.Pairwise (· > ·)) {i j : Nat} (h : i < j) (hj : j < l.length) : l.getD j 0 < l.getD i 0 := by
  rw [List.getD_eq_getElem?_getD, List.getD_eq_getElem?_getD, List.getElem?_eq_getElem hj, List.getElem?_eq_getElem (by omega)]
  exact (List.pairwise_iff_getElem.1 hp) i j (by omega) hj h
theorem up_rise {l : List Int} {m : Int} (hp : l.Pairwise (· < ·)) (hm : ∀ x ∈ l, x ≤ m) {n : Nat} (hn : 1 ≤ n) : up l m n < up l m (n + 1) := by
  unfold up
  by_cases h : n + 1 ≤ l.length
  · rw [if_pos (by omega), if_pos h]
    exact get_lt hp (by omega) (by omega)
  · rw [if_neg h]
    by_cases h2 : n ≤ l.length
    · rw [if_pos h2]
      have := hm _ (get_mem (l := l) (i := n - 1) (by omega))
      omega
    · rw [if_neg h2]
      omega
theorem down_fall {l : List Int} {m : Int} (hp : l.Pairwise (· > ·)) (hm : ∀ x ∈ l, m ≤ x) {n : Nat} (hn : 1 ≤ n) : down l m (n + 1) < down l m n := by
  unfold down
  by_cases h : n + 1 ≤ l.length
  · rw [if_pos h, if_pos (show n ≤ l.length by omega)]
    exact get_gt hp (by omega) (by omega)
  · rw [if_neg h]
    by_cases h2 : n ≤ l.length
    · rw [if_pos h2]
      have := hm _ (get_mem (l := l) (i := n - 1) (by omega))
      omega
    · rw [if_neg h2]
      omega
theorem nth_up (t : List (List ByteArray)) (s : ByteArray) (n : Int) (h0 : t.length ≠ 0) (h1 : 1 ≤ n) (h2 : n ≤ 501) : nthV t s n = up (hitsK t s t.length) ((t.length : Int) - 1) n.toNat := by
  unfold nthV
  rw [if_neg (by omega), if_pos (by omega)]
theorem nth_down (t : List (List ByteArray)) (s : ByteArray) (n : Int) (h0 : t.length ≠ 0) (h1 : 1 ≤ n) (h2 : n ≤ 501) : nthV t s (-n) = down (hitsK t s t.length).reverse 0 n.toNat := by
  unfold nthV
  rw [if_neg (by omega), if_neg (by omega), Int.neg_neg]
theorem along_up (t : List (List ByteArray)) (s : ByteArray) (f n : Int) (h0 : t.length ≠ 0) (h1 : 1 ≤ n) (h2 : n ≤ 501) (h3 : 0 ≤ f) (h4 : f < t.length) (h5 : t.length ≤ 600) : alongV t s f n = up (after t s f) ((t.length : Int) - 1) n.toNat := by
  unfold alongV
  rw [if_neg (by omega), if_pos (by omega), show max f ((t.length : Int) - 1) = (t.length : Int) - 1 by omega]
theorem along_down (t : List (List ByteArray)) (s : ByteArray) (f n : Int) (h0 : t.length ≠ 0) (h1 : 1 ≤ n) (h2 : n ≤ 501) (h3 : 0 ≤ f) (h4 : f < t.length) (h5 : t.length ≤ 600) : alongV t s f (-n) = down (PureNm.ahead t s f) 0 n.toNat := by
  unfold alongV
  rw [if_neg (by omega), if_neg (by omega), Int.neg_neg, show min f 0 = 0 by omega]
theorem nth_rise (t : List (List ByteArray)) (s : ByteArray) (n : Int) (h0 : t.length ≠ 0) (h1 : 1 ≤ n) (h2 : n ≤ 500) : nthV t s n < nthV t s (n + 1) := by
  rw [nth_up t s n h0 h1 (by omega), nth_up t s _ h0 (by omega) (by omega), show (n + 1).toNat = n.toNat + 1 by omega]
  exact up_rise (hits_sorted t s _) (fun x hx => by have := hits_bd hx; omega) (by omega)
theorem nth_fall (t : List (List ByteArray)) (s : ByteArray) (n : Int) (h0 : t.length ≠ 0) (h1 : 1 ≤ n) (h2 : n ≤ 500) : nthV t s (-n - 1) < nthV t s (-n) := by
  rw [show -n - 1 = -(n + 1) by omega, nth_down t s n h0 h1 (by omega), nth_down t s _ h0 (by omega) (by omega), show (n + 1).toNat = n.toNat + 1 by omega]
  refine down_fall (List.pairwise_reverse.2 (hits_sorted t s _)) (fun x hx => ?_) (by omega)
  have := hits_bd (List.mem_reverse.1 hx)
  omega
theorem along_rise (t : List (List ByteArray)) (s : ByteArray) (f n : Int) (h0 : t.length ≠ 0) (h1 : 1 ≤ n) (h2 : n ≤ 500) (h3 : 0 ≤ f) (h4 : f < t.length) (h5 : t.length ≤ 600) : alongV t s f n < alongV t s f (n + 1) := by
  rw [along_up t s f n h0 h1 (by omega) h3 h4 h5, along_up t s f _ h0 (by omega) (by omega) h3 h4 h5, show (n + 1).toNat = n.toNat + 1 by omega]
  refine up_rise ((hits_sorted t s _).filter _) (fun x hx => ?_) (by omega)
  have := hits_bd (List.mem_filter.1 hx).1
  omega
theorem along_fall (t : List (List ByteArray)) (s : ByteArray) (f n : Int) (h0 : t.length ≠ 0) (h1 : 1 ≤ n) (h2 : n ≤ 500) (h3 : 0 ≤ f) (h4 : f < t.length) (h5 : t.length ≤ 600) : alongV t s f (-n - 1) < alongV t s f (-n) := by
  rw [show -n - 1 = -(n + 1) by omega, along_down t s f n h0 h1 (by omega) h3 h4 h5, along_down t s f _ h0 (by omega) (by omega) h3 h4 h5, show (n + 1).toNat = n.toNat + 1 by omega]
  refine down_fall ((List.pairwise_reverse.2 (hits_sorted t s _)).filter _) (fun x hx => ?_) (by omega)
  have := hits_bd (List.mem_reverse.1 (List.mem_filter.1 hx).1)
  omega

/-! ### without a name -/
theorem has_empty (l : List ByteArray) : hasN l ⟨#[]⟩ = true := by
  have : (⟨#[]⟩ : ByteArray).toList = [] := by rw [ByteArray.toList_eq]
  simp [hasN, this]
theorem hits_empty (t : List (List ByteArray)) (k : Nat) : hitsK t ⟨#[]⟩ k = (List.range k).map (fun i : Nat => (i : Int)) := by
  unfold hitsK
  rw [List.filter_eq_self.2 (fun i _ => has_empty _)]
theorem beh_empty (t : List (List ByteArray)) (i : Nat) : beh t ⟨#[]⟩ i = (List.range' i (t.length - i)).map (fun j : Nat => (j : Int)) := by
  unfold beh
  rw [List.filter_eq_self.2 (fun i _ => has_empty _)]
theorem nth_plain (t : List (List ByteArray)) (n : Int) (h0 : t.length ≠ 0) (h1 : 1 ≤ n) (h2 : n ≤ 500) : nthV t ⟨#[]⟩ n = n - 1 := by
  rw [nth_up t _ n h0 h1 (by omega), hits_empty]
  unfold up
  by_cases h : n.toNat ≤ t.length
  · rw [if_pos (by simpa using h)]
    simp [List.getD_eq_getElem?_getD, List.getElem?_range (show n.toNat - 1 < t.length by omega)]
    omega
  · rw [if_neg (by simpa using h)]
    simp
    omega
theorem rev_get (k j : Nat) (h : j < k) : (((List.range k).map (fun i : Nat => (i : Int))).reverse).getD j 0 = (k : Int) - 1 - j := by
  rw [List.getD_eq_getElem?_getD, List.getElem?_reverse (by simpa using h)]
  simp [List.getElem?_range (show k - 1 - j < k by omega)]
  omega
theorem nth_back (t : List (List ByteArray)) (n : Int) (h0 : t.length ≠ 0) (h1 : 1 ≤ n) (h2 : n ≤ 500) : nthV t ⟨#[]⟩ (-n) = (t.length : Int) - n := by
  rw [nth_down t _ n h0 h1 (by omega), hits_empty]
  unfold down
  by_cases h : n.toNat ≤ t.length
  · rw [if_pos (by simp; omega), rev_get _ _ (by omega)]
    omega
  · rw [if_neg (by simp; omega)]
    simp
    omega
theorem along_plain (t : List (List ByteArray)) (f n : Int) (h0 : t.length ≠ 0) (h1 : 1 ≤ n) (h2 : n ≤ 500) (h3 : 0 ≤ f) (h4 : f < t.length) (h5 : t.length ≤ 600) : alongV t ⟨#[]⟩ f n = f + n := by
  rw [along_up t _ f n h0 h1 (by omega) h3 h4 h5, after_eq, beh_empty]
  unfold up
  by_cases h : n.toNat ≤ t.length - (f + 1).toNat
  · rw [if_pos (by simpa using h)]
    simp [List.getD_eq_getElem?_getD, List.getElem?_range' (show n.toNat - 1 < t.length - (f + 1).toNat by omega)]
    omega
  · rw [if_neg (by simpa using h)]
    simp
    omega
theorem along_back (t : List (List ByteArray)) (f n : Int) (h0 : t.length ≠ 0) (h1 : 1 ≤ n) (h2 : n ≤ 500) (h3 : 0 ≤ f) (h4 : f < t.length) (h5 : t.length ≤ 600) : alongV t ⟨#[]⟩ f (-n) = f - n := by
  rw [along_down t _ f n h0 h1 (by omega) h3 h4 h5, ahead_eq, hits_empty]
  unfold down
  by_cases h : n.toNat ≤ min f.toNat t.length
  · rw [if_pos (by simp; omega), rev_get _ _ (by omega)]
    omega
  · rw [if_neg (by simp; omega)]
    simp
    omega

theorem NamesRising : parterrelaw16_NamesRising.Pure := by
  intro t s f0 n0 hg hs hf hn
  have hg1 := hg.1
  refine Ev.rounds ?_
  unfold parterrelaw16_NamesRising.f
  obtain ⟨b, hb, hl⟩ := light_ev t (by omega)
  have no : ∀ n : Int, Ev (fun k => parterrelaw16_NamesRising.j0 k t s f0 n true) true := fun n => by
    refine ev_step ?_
    simp only [parterrelaw16_NamesRising.j0]
    exact ev_pos trivial (ev_bind_some lives_ev)
  refine ev_bind hb (ev_ite (fun h => ?_) (fun h => no _))
  have hl := hl h
  have h6 := hl.1
  have hsz : s.size ≤ 140737488351232 := hs
  have hsm := small_of hl hg
  have hez : (⟨#[]⟩ : ByteArray).size ≤ 9223372036854775807 := by decide
  by_cases h0 : t.length = 0
  · rw [show ((t.length : Int) == 0) = true by simp [h0]]
    exact no _
  · rw [show ((t.length : Int) == 0) = false from beq_eq_false_iff_ne.mpr (by omega)]
    have hu : ∀ x : Int, 0 ≤ IntKind.u64.wrap x := fun x => by simp [IntKind.wrap, IntKind.signed, IntKind.bits]; omega
    have hm : ∀ x y : Int, 0 < y → 0 ≤ Int.tmod (IntKind.u64.wrap x) y ∧ Int.tmod (IntKind.u64.wrap x) y < y := fun x y hy => by
      rw [Int.tmod_eq_emod_of_nonneg (hu x)]
      exact ⟨Int.emod_nonneg _ (by omega), Int.emod_lt_of_pos _ hy⟩
    have hlw : IntKind.u64.wrap (t.length : Int) = (t.length : Int) := by
      simp [IntKind.wrap, IntKind.signed, IntKind.bits]
      omega
    have hn1 := hm n0 500 (by omega)
    have hf1 := hm f0 (t.length : Int) (by omega)
    rw [w64 (x := Int.tmod (IntKind.u64.wrap n0) 500) (by omega) (by omega), w64 (x := 1 + Int.tmod (IntKind.u64.wrap n0) 500) (by omega) (by omega)]
    obtain ⟨n, hnn⟩ : ∃ n : Int, 1 + Int.tmod (IntKind.u64.wrap n0) 500 = n := ⟨_, rfl⟩
    rw [hnn]
    refine ev_step ?_
    simp only [parterrelaw16_NamesRising.j0]
    rw [hlw, w64 (x := Int.tmod (IntKind.u64.wrap f0) (t.length : Int)) (by omega) (by omega)]
    obtain ⟨f, hff⟩ : ∃ f : Int, Int.tmod (IntKind.u64.wrap f0) (t.length : Int) = f := ⟨_, rfl⟩
    rw [hff]
    rw [hff] at hf1
    have hnb : 1 ≤ n ∧ n ≤ 500 := by omega
    clear hnn hn1 hff hm hu hlw
    rw [w64 (x := n + 1) (by omega) (by omega), w64 (x := -n) (by omega) (by omega), w64 (x := -n - 1) (by omega) (by omega)]
    refine ev_neg (by simp) (ev_neg (by omega) ?_)
    have r1 := nth_rise t s n h0 hnb.1 hnb.2
    have r2 := nth_fall t s n h0 hnb.1 hnb.2
    have r3 := along_rise t s f n h0 hnb.1 hnb.2 hf1.1 hf1.2 h6
    have r4 := along_fall t s f n h0 hnb.1 hnb.2 hf1.1 hf1.2 h6
    refine ev_bind (nth_ev t s n hsm (by omega) (by omega)) (ev_bind (nth_ev t s _ hsm (by omega) (by omega)) (ev_neg (by omega) ?_))
    refine ev_bind (nth_ev t s _ hsm (by omega) (by omega)) (ev_bind (nth_ev t s _ hsm (by omega) (by omega)) (ev_neg (by omega) ?_))
    refine ev_bind (along_ev t s f n hsm (by omega) (by omega)) (ev_bind (along_ev t s f _ hsm (by omega) (by omega)) (ev_neg (by omega) ?_))
    refine ev_bind (along_ev t s f _ hsm (by omega) (by omega)) (ev_bind (along_ev t s f _ hsm (by omega) (by omega)) ?_)
    rw [decide_eq_false (by omega)]
    refine ev_step ?_
    simp only [parterrelaw16_NamesRising.j1]
    rw [w64 (x := n - 1) (by omega) (by omega), w64 (x := -n) (by omega) (by omega), w64 (x := (t.length : Int) - n) (by omega) (by omega), w64 (x := f + n) (by omega) (by omega), w64 (x := f - n) (by omega) (by omega)]
    refine ev_neg (by simp) ?_
    refine ev_bind (nth_ev t _ n hsm (by omega) hez) (ev_pos (nth_plain t n h0 hnb.1 hnb.2) ?_)
    refine ev_bind (nth_ev t _ _ hsm (by omega) hez) (ev_pos (nth_back t n h0 hnb.1 hnb.2) ?_)
    refine ev_bind (along_ev t _ f n hsm (by omega) hez) (ev_pos (along_plain t f n h0 hnb.1 hnb.2 hf1.1 hf1.2 h6) ?_)
    refine ev_bind (along_ev t _ f _ hsm (by omega) hez) (ev_pos (along_back t f n h0 hnb.1 hnb.2 hf1.1 hf1.2 h6) ?_)
    exact ev_bind_some lives_ev
end Go.Proofs.Ytbjjmilbilapnaa.Pure
