/- ResolveSpans, as a statement on lists and numbers. Conditions: none beyond the arguments' own kinds. -/
import Derived.Test.YtdjfdhnmbimkoaaPRsx20
import Derived.Test.YtdjfdhnmbimkoaaPureRs
set_option linter.unusedVariables false
set_option linter.unusedSimpArgs false
namespace Go.Proofs.Ytdjfdhnmbimkoaa.Pure
open Go.RowKit Go.Proofs.YtdjfdhnmbimkoaaW.PrintWords Go.Proofs.YtdjfdhnmbimkoaaW.PrintMore Go.Proofs.Ytdjfdhnmbimkoaa.Evs Go.Proofs.Ytdjfdhnmbimkoaa.Giv Go.Proofs.Ytdjfdhnmbimkoaa.Opn Go.Proofs.Ytdjfdhnmbimkoaa.PRs Go.Proofs.Ytdjfdhnmbimkoaa.PureRsNm Go.Proofs.Ytdjfdhnmbimkoaa.PureRs
def GoodR (r : Bool × Int × Int × Int × Int) : Prop := resolve_Good.f r.1 r.2.1 r.2.2.1 r.2.2.2.1 = some true
theorem good_four {n : Int} {s : ByteArray} (h : goodL 4 n s = true) : 1 ≤ n ∧ n ≤ 10000 := by
  unfold goodL at h
  rw [if_neg (by decide), if_neg (by decide), if_neg (by decide), if_pos rfl] at h
  by_cases h1 : n ≥ 1
  · rw [if_pos h1] at h
    by_cases h2 : n ≤ 10000
    · exact ⟨h1, h2⟩
    · rw [if_neg h2] at h; cases h
  · rw [if_neg h1] at h; cases h
theorem core_good (t : List (List ByteArray)) (k1 n1 : Int) (s1 : ByteArray) (k2 n2 : Int) (s2 : ByteArray) (h1 : k1 = 4 → 1 ≤ n1 ∧ n1 ≤ 10000) (h2 : k2 = 4 → 1 ≤ n2 ∧ n2 ≤ 10000) : GoodR (coreV t k1 n1 s1 k2 n2 s2) := by
  unfold coreV
  simp only
  repeat' split
  all_goals first | exact good_pair _ _ | skip
  have hm : 1 ≤ manyV k1 n1 s1 k2 n2 s2 ∧ manyV k1 n1 s1 k2 n2 s2 ≤ 10000 := by
    unfold manyV
    repeat' split
    all_goals omega
  exact good_auto _ hm.1 hm.2
theorem span_good (t : List (List ByteArray)) (k1 n1 : Int) (s1 : ByteArray) (k2 n2 : Int) (s2 : ByteArray) (h : (spanV t k1 n1 s1 k2 n2 s2).2.2.2.2 = 0) : GoodR (spanV t k1 n1 s1 k2 n2 s2) := by
  unfold spanV at h ⊢
  by_cases c : t.length = 0 ∨ t.length > 10001 ∨ goodL k1 n1 s1 = false ∨ goodL k2 n2 s2 = false
  · rw [if_pos c] at h
    cases h
  · rw [if_neg c] at h ⊢
    have g1 : goodL k1 n1 s1 = true := by
      cases hg : goodL k1 n1 s1
      · exact absurd (.inr (.inr (.inl hg))) c
      · rfl
    have g2 : goodL k2 n2 s2 = true := by
      cases hg : goodL k2 n2 s2
      · exact absurd (.inr (.inr (.inr hg))) c
      · rfl
    split
    · exact core_good t k1 n1 s1 1 0 _ (fun e => good_four (by rw [e] at g1; exact g1)) (fun e => by omega)
    · exact core_good t k1 n1 s1 k2 n2 s2 (fun e => good_four (by rw [e] at g1; exact g1)) (fun e => good_four (by rw [e] at g2; exact g2))
theorem ResolveSpans : parterrelaw18_ResolveSpans.Pure := by
  intro t k1 n1 s1 k2 n2 s2 ht h1 h2
  have z1 : s1.size ≤ 140737488351232 := h1.2.2
  have z2 : s2.size ≤ 140737488351232 := h2.2.2
  have hl : t.length ≤ 4611686018427387904 := by
    have := ht.1
    omega
  refine Ev.rounds ?_
  obtain ⟨b, hb1, hb2⟩ := light_ev t hl
  unfold parterrelaw18_ResolveSpans.f
  refine ev_bind hb1 (ev_ite (fun c => ?_) (fun c => ev_bind_some lives_ev))
  have hL := hb2 c
  have hS := small_of hL ht
  refine ev_bind (span_ev t k1 n1 s1 k2 n2 s2 hS (by have := hL.1; omega) z1 z2) (ev_bind (refspan_ev t k1 n1 s1 k2 n2 s2 hL z1 z2) ?_)
  refine ev_pos (by simp) (ev_pos rfl (ev_ite (fun c2 => ?_) (fun c2 => ev_bind_some lives_ev)))
  exact ev_bindc (span_good t k1 n1 s1 k2 n2 s2 c2) (ev_pos rfl (ev_bind_some lives_ev))
end Go.Proofs.Ytdjfdhnmbimkoaa.Pure
