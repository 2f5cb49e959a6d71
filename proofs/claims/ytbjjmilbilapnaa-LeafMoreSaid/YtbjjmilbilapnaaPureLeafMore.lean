/- LeafMore, as a statement on lists and numbers. Conditions: none beyond the arguments' own kinds. -/
import Derived.Test.YtbjjmilbilapnaaPLfx20
import Derived.Test.YtbjjmilbilapnaaPureLf2
set_option linter.unusedVariables false
set_option linter.unusedSimpArgs false
namespace Go.Proofs.Ytbjjmilbilapnaa.Pure
open Go.RowKit Go.Proofs.YtbjjmilbilapnaaW.PrintWords Go.Proofs.YtbjjmilbilapnaaW.PrintMore Go.Proofs.Ytbjjmilbilapnaa.Evs Go.Proofs.Ytbjjmilbilapnaa.Opn Go.Proofs.Ytbjjmilbilapnaa.PLf Go.Proofs.Ytbjjmilbilapnaa.PureLf

/-- With more width there are not more lines. -/
theorem sp_fewer {w : List Wd} (hf : Fine w) {a b : Int} (hab : a ≤ b) : ∀ d fa fb t : Nat, fa < t → fb < t →
    (fa ≤ fb → (sp w b d fb (t - fb)).length ≤ (sp w a d fa (t - fa)).length) ∧ (sp w b d fb (t - fb)).length ≤ (sp w a d fa (t - fa)).length + 1
  | 0, fa, fb, t, h1, h2 => by simp [sp]
  | d + 1, fa, fb, t, h1, h2 => by
    have ih := fun x y (hx : x < t + 1) (hy : y < t + 1) => sp_fewer hf hab d x y (t + 1) hx hy
    have ea : t - fa + 1 = t + 1 - fa := by omega
    have eb : t - fb + 1 = t + 1 - fb := by omega
    have et : 1 = t + 1 - t := by omega
    have ta : fa + (t - fa) = t := by omega
    have tb : fb + (t - fb) = t := by omega
    have i1 := ih fa fb (by omega) (by omega)
    have i2 := ih t fb (by omega) (by omega)
    have i3 := ih fa t (by omega) (by omega)
    have i4 := ih t t (by omega) (by omega)
    simp only [sp, ea, eb, ta, tb]
    rw [← et] at i2 i3 i4
    have hc : fa ≤ fb → wid w fa (t + 1 - fa) ≤ a → wid w fb (t + 1 - fb) ≤ b := fun h3 h4 => Int.le_trans (wid_later hf h3) (Int.le_trans h4 hab)
    refine ⟨fun h3 => ?_, ?_⟩
    · split
      · split
        · exact i1.1 h3
        · simp only [List.length_cons]
          exact i2.2
      · rename_i hb
        rw [if_neg (fun h4 => hb (hc h3 h4))]
        simp only [List.length_cons]
        have := i4.1 (Nat.le_refl _)
        omega
    · split
      · split
        · exact i1.2
        · simp only [List.length_cons]
          have := i2.2
          omega
      · split
        · simp only [List.length_cons]
          have := i3.1 (by omega)
          omega
        · simp only [List.length_cons]
          have := i4.1 (Nat.le_refl _)
          omega
theorem lns_fewer {w : List Wd} (hf : Fine w) {a b : Int} (hab : a ≤ b) : (lns w b).length ≤ (lns w a).length := by
  unfold lns
  split
  · simp
  · exact (sp_fewer hf hab (w.length - 1) 0 0 1 (by omega) (by omega)).1 (Nat.le_refl _)
theorem sp_one {w : List Wd} {m : Int} (h : ∀ f n, wid w f n ≤ m) : ∀ d f n : Nat, (sp w m d f n).length = 1
  | 0, f, n => rfl
  | d + 1, f, n => by
    simp only [sp]
    rw [if_pos (h _ _)]
    exact sp_one h d f (n + 1)
theorem lns_one {w : List Wd} (hf : Fine w) : (lns w (tot wW w)).length ≤ 1 := by
  unfold lns
  split
  · simp
  · rw [sp_one (fun f n => wid_tot hf f n)]
    omega

/-! ### the highest box -/
def top (m : Int) (w : List Wd) : Int := w.foldl (fun m l => hi m l) m
theorem top_cons (m : Int) (l : Wd) (w : List Wd) : top m (l :: w) = top (hi m l) w := rfl
theorem mx0 (m : Int) : mx m m = m := by rw [mx_eq]; omega
theorem hi_base (m : Int) (l : Wd) (h : 0 ≤ m) : hi m l = mx m (wH l) := by
  have := hi_mx l m 0
  rw [show mx m 0 = m by rw [mx_eq]; omega] at this
  exact this
theorem top_base : ∀ (w : List Wd) (m : Int), 0 ≤ m → top m w = mx m (top 0 w)
  | [], m, h => by simp only [top, List.foldl_nil, mx_eq]; omega
  | l :: r, m, h => by
    have hw := wH_nonneg l
    have h0 : 0 ≤ hi m l := Int.le_trans h (hi_ge l m)
    rw [top_cons, top_cons, top_base r _ h0, top_base r (hi 0 l) hw, hi_base m l h, ← wH_hi]
    simp only [mx_eq]
    omega
theorem top_append (a b : List Wd) (m : Int) : top m (a ++ b) = top (top m a) b := by simp [top]
theorem top_nonneg (w : List Wd) : 0 ≤ top 0 w := by
  have := top_base w 0 (Int.le_refl _)
  rw [mx_eq] at this
  omega
theorem top_take (w : List Wd) (f : Nat) : ∀ n, top 0 ((w.drop f).take n) = hig w f n
  | 0 => by simp [top, hig]
  | n + 1 => by
    have ih := top_take w f n
    simp only [hig]
    by_cases h : f + n < w.length
    · rw [List.take_succ_eq_append_getElem (by simp; omega), top_append, ih]
      have h1 : (w.drop f)[n]'(by simp; omega) = wd w (f + n) := by simp [wd, List.getD_eq_getElem?_getD, List.getElem?_eq_getElem h]
      rw [h1]
      have : 0 ≤ hig w f n := by rw [← ih]; exact top_nonneg _
      exact hi_base _ _ this
    · have e0 : wd w (f + n) = [] := by simp [wd, List.getD_eq_getElem?_getD, List.getElem?_eq_none (show w.length ≤ f + n by omega)]
      rw [List.take_of_length_le (by simp; omega)]
      rw [List.take_of_length_le (by simp; omega)] at ih
      rw [ih, e0]
      have h0 : 0 ≤ hig w f n := by rw [← ih]; exact top_nonneg _
      simp only [wH, List.foldl_nil, mx_eq]
      omega
theorem sp_top {w : List Wd} (hf : Fine w) (a : Int) : ∀ d f n : Nat, f + n + d = w.length → top 0 (w.drop f) ≤ ((sp w a d f n).map (fun p => hig w p.1 p.2)).sum
  | 0, f, n, h => by
    have := top_take w f n
    rw [List.take_of_length_le (by simp; omega)] at this
    simp only [sp, List.map_cons, List.map_nil, List.sum_cons, List.sum_nil]
    omega
  | d + 1, f, n, h => by
    simp only [sp]
    split
    · exact sp_top hf a d f (n + 1) (by omega)
    · have h1 := sp_top hf a d (f + n) 1 (by omega)
      have h2 := (sp_S hf a d (f + n) 1 (by omega)).1
      have h3 : w.drop f = (w.drop f).take n ++ w.drop (f + n) := by rw [← List.drop_drop, List.take_append_drop]
      have h4 := top_take w f n
      have h5 := (hig_le_S hf f n).1
      rw [h3, top_append, h4, top_base _ _ h5]
      simp only [List.map_cons, List.sum_cons, mx_eq]
      omega
theorem top_height {w : List Wd} (hf : Fine w) (a : Int) : top 0 w ≤ heightV w a := by
  unfold heightV lns
  split
  · rename_i h
    have : w = [] := List.length_eq_zero_iff.1 h
    subst this
    simp [top]
  · have := sp_top hf a (w.length - 1) 0 1 (by omega)
    rw [List.drop_zero] at this
    exact this

/-! ### the sums that the law makes -/
theorem more_l1 (w : List Wd) (x y z : List Ln) (hh : Int) (l : Wd) (i : Nat) (r : Bool) (hl : l.length ≤ 600) (hi' : i ≤ 600) (ho : OkW l) : ∀ d j : Nat, ∀ a m : Int, l.length - j = d → j ≤ l.length → 0 ≤ a → a + wS (l.drop j) ≤ 17592186044416 →
    Ev (fun k => parterrelaw14_LeafMore.l0 k x y z hh (a + wS (l.drop j)) (hi m (l.drop j)) w (w.length : Int) ((i + 1 : Nat) : Int)) r →
    Ev (fun k => parterrelaw14_LeafMore.l1 k x y z hh a m w (w.length : Int) (i : Int) l (l.length : Int) (j : Int)) r := by
  intro d
  induction d with
  | zero =>
    intro j a m hd hj ha h1 hk
    have : j = l.length := by omega
    subst this
    rw [List.drop_length] at hk
    refine ev_step ?_
    simp only [parterrelaw14_LeafMore.l1]
    rw [w64 (x := (i : Int) + 1) (by omega) (by omega)]
    refine ev_neg (by omega) ?_
    simpa [wS, hi] using hk
  | succ d ih =>
    intro j a m hd hj ha h1 hk
    have hlt : j < l.length := by omega
    have hb1 := ho _ (bx_mem hlt)
    have hn1 := wS_nonneg (ho.drop (j + 1))
    rw [drop_bx hlt, wS_cons] at h1
    rw [drop_bx hlt, wS_cons, hi_cons, ← Int.add_assoc] at hk
    unfold side at hb1
    refine ev_step ?_
    simp only [parterrelaw14_LeafMore.l1, rd_bx]
    rw [w64 (x := (j : Int) + 1) (by omega) (by omega), w64 (x := a + (bx l j).f1) (by omega) (by omega)]
    exact ev_pos (by omega) (ev_pos (by omega) (ev_pos (by omega) (ih (j + 1) _ _ (by omega) (by omega) (by omega) (by omega) hk)))
theorem more_l0 (w : List Wd) (x y z : List Ln) (hh : Int) (hw : Light w) (hf : Fine w) (h1 : y.length ≤ x.length) (h2 : z.length ≤ 1) (h3 : hh ≤ tot wS w) (h4 : top 0 w ≤ hh) : ∀ d i : Nat, ∀ a m : Int, w.length - i = d → i ≤ w.length → 0 ≤ a → a + tot wS (w.drop i) = tot wS w → top m (w.drop i) = top 0 w →
    Ev (fun k => parterrelaw14_LeafMore.l0 k x y z hh a m w (w.length : Int) (i : Int)) true := by
  have h6 := hw.1
  intro d
  induction d with
  | zero =>
    intro i a m hd hi ha e1 e2
    have : i = w.length := by omega
    subst this
    rw [List.drop_length] at e1 e2
    have e3 : m = top 0 w := e2
    simp only [tot, List.map_nil, List.sum_nil, Int.add_zero] at e1
    refine ev_step ?_
    simp only [parterrelaw14_LeafMore.l0]
    refine ev_neg (by omega) (ev_pos (by omega) (ev_pos (by omega) (ev_pos ?_ (ev_pos ?_ (ev_bind_some lives_ev)))))
    · rw [e1]; exact h3
    · rw [e3]; exact h4
  | succ d ih =>
    intro i a m hd hi ha e1 e2
    have hlt : i < w.length := by omega
    have hll := hw.2 _ (wd_mem hlt)
    have ho := hf.ok _ (wd_mem hlt)
    have hS := hf.totS
    have hr2 : 0 ≤ tot wS (w.drop (i + 1)) := tot_nonneg (fun l hl => wS_nonneg (hf.ok l (List.mem_of_mem_drop hl)))
    have hs1 := wS_nonneg ho
    rw [drop_wd hlt, tot_cons] at e1
    rw [drop_wd hlt, top_cons] at e2
    refine ev_step ?_
    simp only [parterrelaw14_LeafMore.l0, rd_wd]
    refine ev_pos (by omega) (ev_pos (by omega) (ev_pos (by omega) ?_))
    refine more_l1 w x y z hh (wd w i) i _ (by omega) (by omega) ho _ 0 a m rfl (Nat.zero_le _) ha ?_ ?_
    · rw [List.drop_zero]; omega
    · rw [List.drop_zero]
      exact ih (i + 1) _ _ (by omega) (by omega) (by omega) (by omega) e2

theorem LeafMore : parterrelaw14_LeafMore.Pure := by
  intro w a b hg ha hb
  have hg1 := hg.1
  refine Ev.rounds ?_
  unfold parterrelaw14_LeafMore.f
  obtain ⟨c, hc, hl⟩ := light_ev w (by omega)
  refine ev_bind hc (ev_ite (fun h => ?_) (fun h => ev_bind_some lives_ev))
  have hw := hl h
  have h6 := hw.1
  refine ev_bind (lines_ev w (mn a b) hw) (ev_bind (lines_ev w (mx a b) hw) (ev_bind (max_ev w hw) (ev_bind (lines_ev w (lookV w).1 hw) ?_)))
  by_cases h0 : (lookV w).2 = 0
  · obtain ⟨hf, h7, h8, h9⟩ := look_fine h0
    have hhb := height_bd hf a
    refine ev_pos ?_ (ev_bind (height_ev w a hw) ?_)
    · unfold linesV
      rw [if_pos h0]
    · rw [if_pos h0]
      have e1 : ∀ c, (linesV w c).1 = (lns w c).map (lnOf w) := fun c => by unfold linesV; rw [if_pos h0]
      rw [e1, e1, e1, h9]
      have := more_l0 w ((lns w (mn a b)).map (lnOf w)) ((lns w (mx a b)).map (lnOf w)) ((lns w (tot wW w)).map (lnOf w)) (heightV w a) hw hf
        (by simpa using lns_fewer hf (a := mn a b) (b := mx a b) (by simp only [mn_eq, mx_eq]; omega)) (by simpa using lns_one hf) hhb.2 (top_height hf a) _ 0 0 0 rfl (Nat.zero_le _) (by omega) (by rw [List.drop_zero]; omega) (by rw [List.drop_zero])
      exact this
  · have e1 : ∀ c, linesV w c = ([], (lookV w).2) := fun c => by unfold linesV; rw [if_neg h0]
    rw [e1, e1, e1]
    have e2 : (lookV w).1 = 0 := by
      unfold lookV at h0 ⊢
      split
      · split
        · rename_i h1 h2
          rw [if_pos h1, if_pos h2] at h0
          exact absurd rfl h0
        · rfl
      · rfl
    exact ev_neg h0 (ev_pos (show wrap64 (wrap64 ((0 : Int) + 0) + 0) = 0 by unfold wrap64; omega) (ev_pos e2 (ev_bind_some lives_ev)))
end Go.Proofs.Ytbjjmilbilapnaa.Pure
