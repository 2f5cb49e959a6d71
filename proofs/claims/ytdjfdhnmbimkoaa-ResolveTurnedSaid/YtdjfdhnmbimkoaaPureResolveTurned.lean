/- ResolveTurned, as a statement on lists and numbers. Conditions: none beyond the arguments' own kinds. -/
import Derived.Test.YtdjfdhnmbimkoaaPRsx12
import Derived.Test.YtdjfdhnmbimkoaaPureRs
set_option linter.unusedVariables false
set_option linter.unusedSimpArgs false
namespace Go.Proofs.Ytdjfdhnmbimkoaa.Pure
open Go.RowKit Go.Proofs.YtdjfdhnmbimkoaaW.PrintWords Go.Proofs.YtdjfdhnmbimkoaaW.PrintMore Go.Proofs.Ytdjfdhnmbimkoaa.Evs Go.Proofs.Ytdjfdhnmbimkoaa.Giv Go.Proofs.Ytdjfdhnmbimkoaa.Opn Go.Proofs.Ytdjfdhnmbimkoaa.PRs Go.Proofs.Ytdjfdhnmbimkoaa.PureRsNm Go.Proofs.Ytdjfdhnmbimkoaa.PureRs
theorem hits_none (t : List (List ByteArray)) (k : Nat) : hitsK t (⟨#[]⟩ : ByteArray) k = (List.range k).map (fun i : Nat => (i : Int)) := by
  unfold hitsK hasN
  rw [empty_list]
  congr 1
  rw [List.filter_eq_self]
  intro x _
  simp
theorem num_good {n : Int} (h : goodL 2 n (⟨#[]⟩ : ByteArray) = true) : n ≠ 0 ∧ -10000 ≤ n ∧ n ≤ 10000 := by
  unfold goodL at h
  rw [if_neg (by decide), if_pos rfl] at h
  by_cases h0 : n = 0
  · rw [if_pos h0] at h; cases h
  · rw [if_neg h0] at h
    by_cases h1 : n ≥ -10000
    · rw [if_pos h1] at h
      by_cases h2 : n ≤ 10000
      · exact ⟨h0, h1, h2⟩
      · rw [if_neg h2] at h; cases h
    · rw [if_neg h1] at h; cases h
theorem range_get (k i : Nat) (h : i < k) : ((List.range k).map (fun i : Nat => (i : Int))).getD i 0 = i := by
  rw [List.getD_eq_getElem?_getD, List.getElem?_eq_getElem (by simpa using h)]
  simp
theorem range_rev (k i : Nat) (h : i < k) : ((List.range k).map (fun i : Nat => (i : Int))).reverse.getD i 0 = (k : Int) - 1 - i := by
  rw [List.getD_eq_getElem?_getD, List.getElem?_eq_getElem (by simpa using h)]
  simp
  omega
theorem num_bd (t : List (List ByteArray)) (n : Int) (h0 : t.length ≠ 0) (hn : n ≠ 0 ∧ -10000 ≤ n ∧ n ≤ 10000) (h6 : t.length ≤ 600) : -9999 ≤ nthV t (⟨#[]⟩ : ByteArray) n ∧ nthV t (⟨#[]⟩ : ByteArray) n ≤ 9999 := by
  unfold nthV
  rw [if_neg (by omega), hits_none]
  have hz : ((List.range t.length).map (fun i : Nat => (i : Int))).length = t.length := by simp
  by_cases hp : n > 0
  · rw [if_pos hp]
    unfold up
    rw [hz]
    split
    · rw [range_get _ _ (by omega)]
      omega
    · omega
  · rw [if_neg hp]
    unfold down
    rw [List.length_reverse, hz]
    split
    · rw [range_rev _ _ (by omega)]
      omega
    · omega
theorem clamp_in {a b : Int} (h1 : a < b) (h2 : -9999 ≤ a) (h3 : a ≤ 9999) : clampV a b = (a, min 10000 b) := by
  unfold clampV
  rw [if_neg (by omega), if_neg (by omega), if_neg (by omega), mx_eq, mn_eq]
  congr 1 <;> omega
section
variable (t : List (List ByteArray)) (h0 : t.length ≠ 0) (h6 : t.length ≤ 600)
theorem span_num (h0 : t.length ≠ 0) (h6 : t.length ≤ 600) {a k2 n2 : Int} {s2 : ByteArray} (ha : goodL 2 a (⟨#[]⟩ : ByteArray) = true) (hb : goodL k2 n2 s2 = true) :
    spanV t 2 a (⟨#[]⟩ : ByteArray) k2 n2 s2 = coreV t 2 a (⟨#[]⟩ : ByteArray) k2 n2 s2 := by
  unfold spanV
  rw [if_neg (by rintro (q | q | q | q) <;> first | omega | (rw [ha] at q; cases q) | (rw [hb] at q; cases q)), if_neg (by omega)]
theorem span_two (h0 : t.length ≠ 0) (h6 : t.length ≤ 600) {a b : Int} (ha : goodL 2 a (⟨#[]⟩ : ByteArray) = true) (hb : goodL 2 b (⟨#[]⟩ : ByteArray) = true) :
    spanV t 2 a (⟨#[]⟩ : ByteArray) 2 b (⟨#[]⟩ : ByteArray) = spanV t 2 b (⟨#[]⟩ : ByteArray) 2 a (⟨#[]⟩ : ByteArray) ∧ (spanV t 2 a (⟨#[]⟩ : ByteArray) 2 b (⟨#[]⟩ : ByteArray)).2.2.2.2 = 0 := by
  rw [span_num t h0 h6 ha hb, span_num t h0 h6 hb ha]
  have e : ∀ n : Int, ∀ q : Bool, (sureV t 2 n (⟨#[]⟩ : ByteArray) q).1 = nthV t (⟨#[]⟩ : ByteArray) n := fun n q => by
    unfold sureV
    rw [if_neg (by decide), if_pos rfl]
  have e2 : isSure 2 = true := by decide
  unfold coreV
  simp only [e, e2, if_true]
  generalize nthV t (⟨#[]⟩ : ByteArray) a = x
  generalize nthV t (⟨#[]⟩ : ByteArray) b = y
  by_cases c1 : x > y
  · rw [if_pos c1, if_neg (by omega), if_neg (by omega)]
    exact ⟨rfl, rfl⟩
  · rw [if_neg c1]
    by_cases c2 : x = y
    · subst c2
      rw [if_pos rfl, if_neg (by omega)]
      exact ⟨rfl, rfl⟩
    · rw [if_neg c2, if_pos (by omega)]
      exact ⟨rfl, rfl⟩
theorem span_alone (h0 : t.length ≠ 0) (h6 : t.length ≤ 600) {a : Int} (ha : goodL 2 a (⟨#[]⟩ : ByteArray) = true) :
    spanV t 2 a (⟨#[]⟩ : ByteArray) 1 0 (⟨#[]⟩ : ByteArray) = (false, nthV t (⟨#[]⟩ : ByteArray) a, nthV t (⟨#[]⟩ : ByteArray) a + 1, 0, 0) := by
  have hb := num_bd t a h0 (num_good ha) h6
  rw [span_num t h0 h6 ha (by unfold goodL; rw [if_pos rfl, if_pos rfl, empty_list]; rfl)]
  unfold coreV
  have e : (sureV t 2 a (⟨#[]⟩ : ByteArray) false).1 = nthV t (⟨#[]⟩ : ByteArray) a := by
    unfold sureV
    rw [if_neg (by decide), if_pos rfl]
  have e2 : isSure 2 = true := by decide
  have e3 : isSure 1 = false := by decide
  simp only [e, e2, e3, if_true]
  unfold farV
  rw [if_neg (by decide), if_neg (by decide), w64 (by omega) (by omega), clamp_in (by omega) hb.1 hb.2, show min 10000 (nthV t (⟨#[]⟩ : ByteArray) a + 1) = nthV t (⟨#[]⟩ : ByteArray) a + 1 by omega]
  rfl
theorem span_far (h0 : t.length ≠ 0) (h6 : t.length ≤ 600) {a n : Int} (ha : goodL 2 a (⟨#[]⟩ : ByteArray) = true) (h1 : 1 ≤ n) (h2 : n ≤ 50) :
    spanV t 2 a (⟨#[]⟩ : ByteArray) 4 n (⟨#[]⟩ : ByteArray) = (false, nthV t (⟨#[]⟩ : ByteArray) a, min 10000 (nthV t (⟨#[]⟩ : ByteArray) a + n), 0, 0) := by
  have hb := num_bd t a h0 (num_good ha) h6
  rw [span_num t h0 h6 ha (by unfold goodL; rw [if_neg (by decide), if_neg (by decide), if_neg (by decide), if_pos rfl, if_pos (by omega), if_pos (by omega), if_pos empty_list])]
  unfold coreV
  have e : (sureV t 2 a (⟨#[]⟩ : ByteArray) false).1 = nthV t (⟨#[]⟩ : ByteArray) a := by
    unfold sureV
    rw [if_neg (by decide), if_pos rfl]
  have e2 : isSure 2 = true := by decide
  have e3 : isSure 4 = false := by decide
  simp only [e, e2, e3, if_true]
  unfold farV
  rw [if_neg (by decide), if_pos rfl, if_pos empty_list, show wrap64 (1 * n) = n by rw [Int.one_mul]; exact w64 (by omega) (by omega), w64 (by omega) (by omega), clamp_in (by omega) hb.1 hb.2]
  rfl
end
theorem fifty (b : Int) : 1 ≤ wrap64 (1 + wrap64 (Int.tmod (IntKind.u64.wrap b) 50)) ∧ wrap64 (1 + wrap64 (Int.tmod (IntKind.u64.wrap b) 50)) ≤ 50 := by
  have h0 : 0 ≤ IntKind.u64.wrap b := by
    simp [IntKind.wrap, IntKind.signed, IntKind.bits]
    omega
  generalize IntKind.u64.wrap b = c at h0
  have h1 : 0 ≤ Int.tmod c 50 := Int.tmod_nonneg _ h0
  have h2 : Int.tmod c 50 < 50 := Int.tmod_lt_of_pos _ (by decide)
  generalize Int.tmod c 50 = d at h1 h2
  rw [w64 (x := d) (by omega) (by omega), w64 (by omega) (by omega)]
  omega
theorem ResolveTurned : parterrelaw18_ResolveTurned.Pure := by
  intro t a b ht ha hb
  have hl : t.length ≤ 4611686018427387904 := by
    have := ht.1
    omega
  have hn : ∀ n : Int, parterrelaw18_num.f n = some (2, n, (⟨#[]⟩ : ByteArray)) := fun _ => rfl
  have hlive : Ev (fun k => parterrelaw18_ResolveTurned.j0 k t a b true) true := by
    refine ev_step ?_
    simp only [parterrelaw18_ResolveTurned.j0]
    exact ev_pos trivial (ev_bind_some lives_ev)
  refine Ev.rounds ?_
  obtain ⟨c, hb1, hb2⟩ := light_ev t hl
  unfold parterrelaw18_ResolveTurned.f
  refine ev_bind hb1 (ev_ite (fun c1 => ?_) (fun c1 => hlive))
  have hL := hb2 c1
  have hS := small_of hL ht
  have h6 := hL.1
  refine ev_ite (fun c2 => hlive) (fun c2 => ev_bindc (hn a) (ev_bind (good_ev 2 a (⟨#[]⟩ : ByteArray) (by decide)) (ev_ite (fun ga => ev_bindc (hn b) (ev_bind (good_ev 2 b (⟨#[]⟩ : ByteArray) (by decide)) ?_)) (fun _ => hlive))))
  have h0 : t.length ≠ 0 := by omega
  cases gb : goodL 2 b (⟨#[]⟩ : ByteArray)
  · exact hlive
  · obtain ⟨e1, e2⟩ := span_two t h0 h6 ga gb
    have e3 : (spanV t 2 b (⟨#[]⟩ : ByteArray) 2 a (⟨#[]⟩ : ByteArray)).2.2.2.2 = 0 := e1 ▸ e2
    have ez := span_alone t h0 h6 ga
    obtain ⟨f1, f2⟩ := fifty b
    have ew := span_far t h0 h6 ga f1 f2
    have bd := num_bd t a h0 (num_good ga) h6
    have sp := fun k2 n2 => span_ev t 2 a (⟨#[]⟩ : ByteArray) k2 n2 (⟨#[]⟩ : ByteArray) hS (by omega) (by decide) (by decide)
    refine ev_step ?_
    simp only [parterrelaw18_ResolveTurned.j0]
    refine ev_neg (by decide) (ev_bindc (hn _) (ev_bindc (hn _) (ev_bind (sp 2 b) (ev_bindc (hn _) (ev_bindc (hn _) (ev_bind (span_ev t 2 b (⟨#[]⟩ : ByteArray) 2 a (⟨#[]⟩ : ByteArray) hS (by omega) (by decide) (by decide)) (ev_pos e2 (ev_pos e3 ?_))))))))
    rw [← e1]
    simp only [beq_self_eq_true, Bool.not_true, Bool.or_false]
    refine ev_step ?_
    simp only [parterrelaw18_ResolveTurned.j1]
    refine ev_neg (by decide) (ev_bindc (hn _) (ev_bind (sp 1 0) ?_))
    rw [ez]
    refine ev_pos rfl ?_
    have hw : wrap64 (nthV t (⟨#[]⟩ : ByteArray) a + 1 - nthV t (⟨#[]⟩ : ByteArray) a) = 1 := by
      rw [w64 (by omega) (by omega)]
      omega
    simp only [hw]
    refine ev_step ?_
    simp only [parterrelaw18_ResolveTurned.j2]
    refine ev_neg (by decide) (ev_bindc (hn _) (ev_bind (sp 4 _) ?_))
    rw [ew]
    simp only
    refine ev_pos trivial (ev_pos trivial (ev_pos ?_ (ev_bind_some lives_ev)))
    rw [mn_eq, w64 (x := nthV t (⟨#[]⟩ : ByteArray) a + _) (by omega) (by omega)]
end Go.Proofs.Ytdjfdhnmbimkoaa.Pure
