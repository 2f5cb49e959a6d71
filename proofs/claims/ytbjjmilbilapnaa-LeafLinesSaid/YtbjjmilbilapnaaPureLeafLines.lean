/- LeafLines, as a statement on lists and numbers. Conditions: none beyond the arguments' own kinds. -/
import Derived.Test.YtbjjmilbilapnaaPLfx19
import Derived.Test.YtbjjmilbilapnaaPureLf3
set_option linter.unusedVariables false
set_option linter.unusedSimpArgs false
namespace Go.Proofs.Ytbjjmilbilapnaa.Pure
open Go.RowKit Go.Proofs.YtbjjmilbilapnaaW.PrintWords Go.Proofs.YtbjjmilbilapnaaW.PrintMore Go.Proofs.Ytbjjmilbilapnaa.Evs Go.Proofs.Ytbjjmilbilapnaa.Opn Go.Proofs.Ytbjjmilbilapnaa.PLf Go.Proofs.Ytbjjmilbilapnaa.PureLf

/-- Lines that stand one behind the other, each as wide as may be. -/
def Chain (w : List Wd) (a : Int) : List (Nat × Nat) → Nat → Prop
  | [], s => s = w.length
  | p :: r, s => p.1 = s ∧ 1 ≤ p.2 ∧ s + p.2 ≤ w.length ∧ (p.2 = 1 ∨ wid w p.1 p.2 ≤ a) ∧ (r ≠ [] → ¬ wid w p.1 (p.2 + 1) ≤ a) ∧ Chain w a r (s + p.2)
theorem sp_ne (w : List Wd) (a : Int) : ∀ d f n : Nat, sp w a d f n ≠ []
  | 0, f, n => by simp [sp]
  | d + 1, f, n => by
    simp only [sp]
    split
    · exact sp_ne w a d f (n + 1)
    · simp
theorem sp_chain (w : List Wd) (a : Int) : ∀ d f n : Nat, f + n + d = w.length → 1 ≤ n → (n = 1 ∨ wid w f n ≤ a) → Chain w a (sp w a d f n) f
  | 0, f, n, h, h1, h2 => by
    show Chain w a [(f, n)] f
    exact ⟨rfl, h1, by show f + n ≤ _; omega, h2, fun h => absurd rfl h, by show f + n = _; omega⟩
  | d + 1, f, n, h, h1, h2 => by
    simp only [sp]
    split
    · rename_i h3
      exact sp_chain w a d f (n + 1) (by omega) (by omega) (.inr h3)
    · rename_i h3
      exact ⟨rfl, h1, by omega, h2, fun _ => h3, sp_chain w a d (f + n) 1 (by omega) (Nat.le_refl _) (.inl rfl)⟩
theorem lns_chain (w : List Wd) (a : Int) : Chain w a (lns w a) 0 := by
  unfold lns
  split
  · rename_i h
    exact h.symm
  · exact sp_chain w a (w.length - 1) 0 1 (by omega) (Nat.le_refl _) (.inl rfl)
theorem fold_ge : ∀ (w : List Wd) (n : Int), n ≤ w.foldl (fun n l => mx n (wW l)) n ∧ ∀ l ∈ w, wW l ≤ w.foldl (fun n l => mx n (wW l)) n
  | [], n => by simp
  | x :: r, n => by
    have h := fold_ge r (mx n (wW x))
    rw [List.foldl_cons]
    refine ⟨?_, ?_⟩
    · have := h.1
      have hm := mx_eq n (wW x)
      omega
    · intro l hl
      rcases List.mem_cons.1 hl with rfl | hl
      · have := h.1
        have hm := mx_eq n (wW l)
        omega
      · exact h.2 l hl
theorem word_min {w : List Wd} {i : Nat} (h : i < w.length) : wW (wd w i) ≤ minV w := (fold_ge w 0).2 _ (wd_mem h)

theorem lines_law (w : List Wd) (a : Int) (hw : Light w) (hf : Fine w) (ps : List (Nat × Nat)) (hp : ps.length ≤ 600) : ∀ d i s : Nat, ps.length - i = d → i ≤ ps.length → Chain w a (ps.drop i) s →
    Ev (fun k => parterrelaw14_LeafLines.l0 k w a (ps.map (lnOf w)) (minV w) (s : Int) (ps.map (lnOf w)) ((ps.map (lnOf w)).length : Int) (i : Int)) true := by
  have h6 := hw.1
  have hT := hf.totW
  intro d
  induction d with
  | zero =>
    intro i s hd hi hc
    have : i = ps.length := by omega
    subst this
    rw [List.drop_length] at hc
    have hc : s = w.length := hc
    refine ev_step ?_
    simp only [parterrelaw14_LeafLines.l0]
    refine ev_neg (by simp) (ev_pos (by omega) (ev_bind_some lives_ev))
  | succ d ih =>
    intro i s hd hi hc
    have hlt : i < ps.length := by omega
    have hl2 : (ps.map (lnOf w)).length = ps.length := List.length_map _
    rw [List.drop_eq_getElem_cons hlt] at hc
    obtain ⟨p, hpi⟩ : ∃ p, ps[i] = p := ⟨_, rfl⟩
    rw [hpi] at hc
    obtain ⟨pf, pn⟩ := p
    obtain ⟨c1, c2, c3, c4, c5, c6⟩ := hc
    obtain rfl : pf = s := c1
    simp only at c2 c3 c4 c5 c6
    have hr : rd_T54 (ps.map (lnOf w)) (i : Int) = lnOf w (pf, pn) := by
      simp [rd_T54, List.getD_eq_getElem?_getD, List.getElem?_eq_getElem hlt, hpi]
    have hwid : wid w pf pn ≤ mx a (minV w) := by
      rw [mx_eq]
      rcases c4 with c4 | c4
      · have h1 : wid w pf 1 = wW (wd w pf) := by simp [wid]
        have h2 := word_min (w := w) (i := pf) (by omega)
        rw [c4, h1]
        omega
      · omega
    have hn0 := wid_nonneg hf pf pn
    have ht0 := wid_tot hf pf pn
    have ihn := ih (i + 1) (pf + pn) (by omega) (by omega) c6
    refine ev_step ?_
    simp only [parterrelaw14_LeafLines.l0, hr, hl2]
    refine ev_pos (by omega) (ev_pos (by omega) (ev_pos (by omega) ?_))
    rw [w64 (x := (i : Int) + 1) (by omega) (by omega), w64 (x := (ps.length : Int) - 1) (by omega) (by omega)]
    rw [hl2] at ihn
    have g0 : (lnOf w (pf, pn)).f0 = (pf : Int) := rfl
    have g1 : (lnOf w (pf, pn)).f1 = ((pf + pn : Nat) : Int) := rfl
    have g2 : (lnOf w (pf, pn)).f2 = wid w pf pn := rfl
    rw [g0, g1, g2]
    refine ev_pos (by omega) (ev_neg (by omega) (ev_neg (by omega) (ev_ite (fun h => ?_) (fun h => ?_))))
    · have hne : ps.drop (i + 1) ≠ [] := by
        intro he
        have := congrArg List.length he
        simp at this
        omega
      have c5 := c5 hne
      have hlt2 : pf + pn < w.length := by
        rcases Nat.lt_or_ge (pf + pn) w.length with h | h
        · exact h
        · exfalso
          have hz : ∀ qs : List (Nat × Nat), qs ≠ [] → ¬ Chain w a qs (pf + pn) := by
            intro qs hq hch
            cases qs with
            | nil => exact hq rfl
            | cons q r =>
              have := hch.2.2.1
              have := hch.2.1
              omega
          exact hz _ hne c6
      have hww := width_ev w hw hf (pf + pn) 1 (by omega)
      have hn1 := wid_nonneg hf (pf + pn) 1
      have ht1 := wid_tot hf (pf + pn) 1
      have e1 : wid w pf (pn + 1) = wid w pf pn + wid w (pf + pn) 1 := by simp [wid]
      rw [w64 (x := ((pf + pn : Nat) : Int) + 1) (by omega) (by omega)]
      have hs1 : -9223372036854775808 ≤ wid w pf pn + wid w (pf + pn) 1 := by omega
      have hs2 : wid w pf pn + wid w (pf + pn) 1 ≤ 9223372036854775807 := by omega
      refine ev_bind hww (ev_neg ?_ ihn)
      rw [w64 hs1 hs2, ← e1]
      exact c5
    · exact ihn

theorem LeafLines : parterrelaw14_LeafLines.Pure := by
  intro w a hg ha
  have hg1 := hg.1
  refine Ev.rounds ?_
  unfold parterrelaw14_LeafLines.f
  obtain ⟨c, hc, hl⟩ := light_ev w (by omega)
  refine ev_bind hc (ev_ite (fun h => ?_) (fun h => ev_bind_some lives_ev))
  have hw := hl h
  have h6 := hw.1
  refine ev_bind (lines_ev w a hw) (ev_bind (min_ev w hw) ?_)
  by_cases h0 : (lookV w).2 = 0
  · obtain ⟨hf, h7, h8, h9⟩ := look_fine h0
    have e1 : linesV w a = ((lns w a).map (lnOf w), 0) := by unfold linesV; rw [if_pos h0]
    rw [e1, if_pos h0]
    refine ev_pos rfl ?_
    have hl := lns_length w a
    refine ev_step ?_
    simp only [parterrelaw14_LeafLines.j0]
    refine ev_neg (by simp) ?_
    exact lines_law w a hw hf (lns w a) (by omega) _ 0 0 rfl (Nat.zero_le _) (by rw [List.drop_zero]; exact lns_chain w a)
  · have e1 : linesV w a = ([], (lookV w).2) := by unfold linesV; rw [if_neg h0]
    rw [e1, if_neg h0]
    refine ev_neg h0 ?_
    refine ev_step ?_
    simp only [parterrelaw14_LeafLines.j0]
    exact ev_pos trivial (ev_pos trivial (ev_pos (by simp) (ev_bind_some lives_ev)))
end Go.Proofs.Ytbjjmilbilapnaa.Pure
