/- What stands in a leaf, as plain lists, continued: the document's own words for the least and the greatest width, lines, heights. Conditions: content of few words. -/
import Derived.Test.YtbjjmilbilapnaaPLfx13
import Derived.Test.YtbjjmilbilapnaaPLfx14
import Derived.Test.YtbjjmilbilapnaaPLfx16
import Derived.Test.YtbjjmilbilapnaaPLfx17
import Derived.Test.YtbjjmilbilapnaaPureLf3
set_option linter.unusedVariables false
set_option linter.unusedSimpArgs false
namespace Go.Proofs.Ytbjjmilbilapnaa.PureLf
open Go.RowKit Go.Proofs.YtbjjmilbilapnaaW.PrintWords Go.Proofs.YtbjjmilbilapnaaW.PrintMore Go.Proofs.Ytbjjmilbilapnaa.Evs Go.Proofs.Ytbjjmilbilapnaa.Opn Go.Proofs.Ytbjjmilbilapnaa.PLf

theorem refis_ev (n : Int) : parterreref01_Is.f n = some (decide (-68719476736 ≤ n ∧ n ≤ 68719476736)) := is_ev n

/-! ### whether content may be -/
/-- Boxes of a word, one by one: so many may still come. -/
def gb (l : Wd) (n : Int) : Bool := decide ((l.length : Int) ≤ n) && l.all okBox
theorem refgood_l1 (w : List Wd) (i : Nat) (n0 : Int) (r : Bool) (hw : Light w) (hlt : i < w.length) (hk : n0 ≤ 256 → Ev (fun k => parterreref09_WordsGood.l0 k w n0 ((i + 1 : Nat) : Int)) r) : ∀ d j : Nat, ∀ n : Int, (wd w i).length - j = d → j ≤ (wd w i).length → 0 ≤ n → n ≤ 256 → n + d = n0 →
    Ev (fun k => parterreref09_WordsGood.l1 k w n (i : Int) (j : Int)) (decide (n0 ≤ 256) && (((wd w i).drop j).all okBox && r)) := by
  have h6 := hw.1
  have hl := hw.2 _ (wd_mem hlt)
  intro d
  induction d with
  | zero =>
    intro j n hd hj h0 h2 h3
    have : j = (wd w i).length := by omega
    subst this
    have hn : n = n0 := by omega
    subst hn
    refine ev_step ?_
    simp only [parterreref09_WordsGood.l1, rd_wd]
    rw [w64 (x := (i : Int) + 1) (by omega) (by omega)]
    refine ev_pos (by omega) (ev_pos (by omega) (ev_neg (by omega) (ev_cast (hk h2) ?_)))
    rw [decide_eq_true h2]
    simp
  | succ d ih =>
    intro j n hd hj h0 h2 h3
    have hlj : j < (wd w i).length := by omega
    refine ev_step ?_
    simp only [parterreref09_WordsGood.l1, rd_wd, rd_bx]
    rw [w64 (x := (j : Int) + 1) (by omega) (by omega), w64 (x := n + 1) (by omega) (by omega), drop_bx hlj]
    refine ev_pos (by omega) (ev_pos (by omega) (ev_pos (by omega) (ev_pos (by omega) (ev_ite (fun h => ev_eq ?_) (fun h => ?_)))))
    · rw [decide_eq_false (by omega : ¬ n0 ≤ 256)]
      simp
    · have bad : ¬ (side (bx (wd w i) j).f0 ∧ side (bx (wd w i) j).f1) → false = (decide (n0 ≤ 256) && ((bx (wd w i) j :: (wd w i).drop (j + 1)).all okBox && r)) := by
        intro hb
        have : okBox (bx (wd w i) j) = false := by
          rw [← Bool.not_eq_true]
          intro ho
          apply hb
          simpa [okBox] using ho
        simp [List.all_cons, this]
      refine ev_ite (fun h1 => ev_eq (bad (fun hb => by have := hb.1.1; omega))) (fun h1 => ev_ite (fun h4 => ev_eq (bad (fun hb => by have := hb.1.2; omega))) (fun h4 => ev_ite (fun h5 => ev_eq (bad (fun hb => by have := hb.2.1; omega))) (fun h5 => ev_ite (fun h7 => ev_eq (bad (fun hb => by have := hb.2.2; omega))) (fun h7 => ?_))))
      refine ev_cast (ih (j + 1) (n + 1) (by omega) (by omega) (by omega) (by omega) (by omega)) ?_
      have hok : okBox (bx (wd w i) j) = true := by
        unfold okBox
        rw [Bool.and_eq_true, decide_eq_true_iff, decide_eq_true_iff]
        unfold side
        omega
      rw [List.all_cons, hok, Bool.true_and]
theorem refgood_l0 (w : List Wd) (hw : Light w) : ∀ d i : Nat, ∀ n : Int, w.length - i = d → i ≤ w.length → 0 ≤ n → n ≤ 256 →
    Ev (fun k => parterreref09_WordsGood.l0 k w n (i : Int)) (wg (256 - n) (w.drop i)) := by
  have h6 := hw.1
  intro d
  induction d with
  | zero =>
    intro i n hd hi h0 h2
    have : i = w.length := by omega
    subst this
    refine ev_step ?_
    simp only [parterreref09_WordsGood.l0]
    refine ev_neg (by omega) (ev_eq ?_)
    rw [List.drop_length]
    rfl
  | succ d ih =>
    intro i n hd hi h0 h2
    have hlt : i < w.length := by omega
    have hll := hw.2 _ (wd_mem hlt)
    refine ev_step ?_
    simp only [parterreref09_WordsGood.l0, rd_wd]
    rw [drop_wd hlt]
    refine ev_pos (by omega) (ev_pos (by omega) (ev_ite (fun h => ev_eq ?_) (fun h => ?_)))
    · have h' : ((wd w i).length == 0) = true := by simp; exact List.length_eq_zero_iff.1 (by omega)
      simp only [wg, h', Bool.not_true, Bool.false_and]
    · have h5 : ((wd w i).length == 0) = false := beq_eq_false_iff_ne.mpr (by omega)
      refine ev_cast (refgood_l1 w i (n + (wd w i).length) (wg (256 - (n + (wd w i).length)) (w.drop (i + 1))) hw hlt (fun hn => ih (i + 1) (n + (wd w i).length) (by omega) (by omega) (by omega) hn) _ 0 n rfl (Nat.zero_le _) h0 h2 (by omega)) ?_
      rw [List.drop_zero]
      simp only [wg, h5, Bool.not_false, Bool.true_and]
      have e1 : decide (n + ((wd w i).length : Int) ≤ 256) = decide (((wd w i).length : Int) ≤ 256 - n) := by
        rw [Bool.eq_iff_iff, decide_eq_true_iff, decide_eq_true_iff]
        omega
      rw [e1, show 256 - (n + ((wd w i).length : Int)) = 256 - n - (wd w i).length by omega]
theorem refgood_ev (w : List Wd) (hw : Light w) : Ev (fun k => parterreref09_WordsGood.f k w) (wg 256 w) := by
  have := refgood_l0 w hw _ 0 0 rfl (Nat.zero_le _) (by omega) (by omega)
  exact this

/-! ### what is wrong -/
theorem wrong_l1 (w : List Wd) (i : Nat) (r : Int) (hw : Light w) (hlt : i < w.length) (ho : OkW (wd w i)) : ∀ d j : Nat, ∀ a : Int, (wd w i).length - j = d → j ≤ (wd w i).length → 0 ≤ a → a + wS ((wd w i).drop j) ≤ 17592186044416 →
    Ev (fun k => parterreref14_wrong.l0 k w (a + wS ((wd w i).drop j)) ((i + 1 : Nat) : Int)) r → Ev (fun k => parterreref14_wrong.l1 k w a (i : Int) (j : Int)) r := by
  have h6 := hw.1
  have hl := hw.2 _ (wd_mem hlt)
  intro d
  induction d with
  | zero =>
    intro j a hd hj ha h1 hk
    have : j = (wd w i).length := by omega
    subst this
    rw [List.drop_length] at hk
    refine ev_step ?_
    simp only [parterreref14_wrong.l1, rd_wd]
    rw [w64 (x := (i : Int) + 1) (by omega) (by omega)]
    refine ev_pos (by omega) (ev_pos (by omega) (ev_neg (by omega) ?_))
    simpa [wS] using hk
  | succ d ih =>
    intro j a hd hj ha h1 hk
    have hlj : j < (wd w i).length := by omega
    have hb1 := ho _ (bx_mem hlj)
    have hn1 := wS_nonneg (ho.drop (j + 1))
    rw [drop_bx hlj, wS_cons] at h1
    rw [drop_bx hlj, wS_cons, ← Int.add_assoc] at hk
    unfold side at hb1
    refine ev_step ?_
    simp only [parterreref14_wrong.l1, rd_wd, rd_bx]
    rw [w64 (x := (j : Int) + 1) (by omega) (by omega), w64 (x := a + (bx (wd w i) j).f1) (by omega) (by omega)]
    exact ev_pos (by omega) (ev_pos (by omega) (ev_pos (by omega) (ev_pos (by omega) (ih (j + 1) _ (by omega) (by omega) (by omega) (by omega) hk))))
theorem wid_whole (w : List Wd) : wid w 0 w.length = tot wW w := by rw [wid_all, List.drop_zero, List.take_length]
theorem wrong_l0 (w : List Wd) (hw : Light w) (hf : Fine w) : ∀ d i : Nat, ∀ a : Int, w.length - i = d → i ≤ w.length → 0 ≤ a → a + tot wS (w.drop i) = tot wS w →
    Ev (fun k => parterreref14_wrong.l0 k w a (i : Int)) (if tot wW w ≤ 68719476736 ∧ tot wS w ≤ 68719476736 then 0 else 10) := by
  have h6 := hw.1
  have hW := hf.totW
  have hS := hf.totS
  intro d
  induction d with
  | zero =>
    intro i a hd hi ha h1
    have : i = w.length := by omega
    subst this
    rw [List.drop_length] at h1
    have h1 : a = tot wS w := by simpa [tot] using h1
    subst h1
    refine ev_step ?_
    simp only [parterreref14_wrong.l0]
    have := width_ev w hw hf 0 w.length (by omega)
    rw [Nat.zero_add, wid_whole] at this
    refine ev_neg (by omega) (ev_bind this (ev_bindc (refis_ev _) (ev_ite (fun h => ev_bindc (refis_ev _) (ev_ite (fun h' => ev_eq ?_) (fun h' => ev_eq ?_))) (fun h => ev_eq ?_))))
    · rw [decide_eq_true_iff] at h h'
      exact (if_pos ⟨h.2, h'.2⟩).symm
    · rw [decide_eq_true_iff] at h'
      exact (if_neg (fun h3 => h' ⟨by omega, h3.2⟩)).symm
    · rw [decide_eq_true_iff] at h
      exact (if_neg (fun h3 => h ⟨by omega, h3.1⟩)).symm
  | succ d ih =>
    intro i a hd hi ha h1
    have hlt : i < w.length := by omega
    have ho := hf.ok _ (wd_mem hlt)
    have hr2 : 0 ≤ tot wS (w.drop (i + 1)) := tot_nonneg (fun l hl => wS_nonneg (hf.ok l (List.mem_of_mem_drop hl)))
    have hs1 := wS_nonneg ho
    rw [drop_wd hlt, tot_cons] at h1
    refine ev_step ?_
    simp only [parterreref14_wrong.l0]
    refine ev_pos (by omega) ?_
    refine wrong_l1 w i _ hw hlt ho _ 0 a rfl (Nat.zero_le _) ha (by rw [List.drop_zero]; omega) ?_
    rw [List.drop_zero]
    exact ih (i + 1) _ (by omega) (by omega) (by omega) (by omega)
theorem wrong_ev (w : List Wd) (hw : Light w) : Ev (fun k => parterreref14_wrong.f k w) (lookV w).2 := by
  unfold parterreref14_wrong.f lookV
  refine ev_bind (refgood_ev w hw) (ev_ite (fun h => ?_) (fun h => ev_eq ?_))
  · rw [if_pos h]
    have := wrong_l0 w hw (fine_of h) _ 0 0 rfl (Nat.zero_le _) (by omega) (by rw [List.drop_zero]; omega)
    refine ev_cast this ?_
    split <;> rfl
  · rw [if_neg h]

/-! ### Min, Max -/
theorem refmin_loop (w : List Wd) (hw : Light w) (hf : Fine w) : ∀ d i : Nat, ∀ n : Int, w.length - i = d → i ≤ w.length → Ev (fun k => parterreref14_Min.l0 k w n (i : Int)) ((w.drop i).foldl (fun n l => mx n (wW l)) n, 0) := by
  have h6 := hw.1
  intro d
  induction d with
  | zero =>
    intro i n hd hi
    have : i = w.length := by omega
    subst this
    refine ev_step ?_
    simp only [parterreref14_Min.l0]
    refine ev_neg (by omega) (ev_eq ?_)
    rw [List.drop_length]
    rfl
  | succ d ih =>
    intro i n hd hi
    have hlt : i < w.length := by omega
    have h1 : wid w i 1 = wW (wd w i) := by simp [wid]
    have := width_ev w hw hf i 1 (by omega)
    rw [h1] at this
    refine ev_step ?_
    simp only [parterreref14_Min.l0]
    rw [w64 (x := (i : Int) + 1) (by omega) (by omega), drop_wd hlt]
    exact ev_pos (by omega) (ev_bind this (ih (i + 1) _ (by omega) (by omega)))
theorem refmin_ev (w : List Wd) (hw : Light w) : Ev (fun k => parterreref14_Min.f k w) (if (lookV w).2 = 0 then (minV w, 0) else (0, (lookV w).2)) := by
  unfold parterreref14_Min.f
  refine ev_bind (wrong_ev w hw) (ev_ite (fun h => ?_) (fun h => ev_eq ?_))
  · rw [if_pos h]
    have := refmin_loop w hw (look_fine h).1 _ 0 0 rfl (Nat.zero_le _)
    exact this
  · rw [if_neg h]
theorem lookV_zero {w : List Wd} (h : (lookV w).2 ≠ 0) : (lookV w).1 = 0 := by
  unfold lookV at h ⊢
  split
  · split
    · rename_i h1 h2
      rw [if_pos h1, if_pos h2] at h
      exact absurd rfl h
    · rfl
  · rfl
theorem refmax_ev (w : List Wd) (hw : Light w) : Ev (fun k => parterreref14_Max.f k w) (lookV w) := by
  unfold parterreref14_Max.f
  refine ev_bind (wrong_ev w hw) (ev_ite (fun h => ?_) (fun h => ev_eq ?_))
  · obtain ⟨hf, _, _, h9⟩ := look_fine h
    have := width_ev w hw hf 0 w.length (by omega)
    rw [Nat.zero_add, wid_whole] at this
    refine ev_bind this (ev_eq ?_)
    rw [← h9, ← h]
  · rw [← lookV_zero h]

/-! ### high, Lines, Height -/
theorem high_l1 (w : List Wd) (t : Int) (i : Nat) (r : Int) (hw : Light w) (hlt : i < w.length) : ∀ d j : Nat, ∀ m : Int, (wd w i).length - j = d → j ≤ (wd w i).length →
    Ev (fun k => parterreref14_high.l0 k w t (hi m ((wd w i).drop j)) ((i + 1 : Nat) : Int)) r → Ev (fun k => parterreref14_high.l1 k w t m (i : Int) (j : Int)) r := by
  have h6 := hw.1
  have hl := hw.2 _ (wd_mem hlt)
  intro d
  induction d with
  | zero =>
    intro j m hd hj hk
    have : j = (wd w i).length := by omega
    subst this
    rw [List.drop_length] at hk
    refine ev_step ?_
    simp only [parterreref14_high.l1, rd_wd]
    rw [w64 (x := (i : Int) + 1) (by omega) (by omega)]
    exact ev_pos (by omega) (ev_pos (by omega) (ev_neg (by omega) hk))
  | succ d ih =>
    intro j m hd hj hk
    have hlj : j < (wd w i).length := by omega
    rw [drop_bx hlj, hi_cons] at hk
    refine ev_step ?_
    simp only [parterreref14_high.l1, rd_wd, rd_bx]
    rw [w64 (x := (j : Int) + 1) (by omega) (by omega)]
    exact ev_pos (by omega) (ev_pos (by omega) (ev_pos (by omega) (ev_pos (by omega) (ih (j + 1) _ (by omega) (by omega) hk))))
theorem hig_front (w : List Wd) (f : Nat) : ∀ n, hig w f (n + 1) = mx (wH (wd w f)) (hig w (f + 1) n)
  | 0 => by
    have := wH_nonneg (wd w f)
    simp only [hig, Nat.add_zero, mx_eq]
    omega
  | n + 1 => by
    rw [hig, hig_front w f n]
    simp only [hig]
    rw [show f + (n + 1) = f + 1 + n by omega]
    simp only [mx_eq]
    omega
theorem high_l0 (w : List Wd) (hw : Light w) : ∀ d i : Nat, ∀ m : Int, i + d ≤ w.length → 0 ≤ m → Ev (fun k => parterreref14_high.l0 k w ((i + d : Nat) : Int) m (i : Int)) (mx m (hig w i d)) := by
  have h6 := hw.1
  intro d
  induction d with
  | zero =>
    intro i m hd hm
    refine ev_step ?_
    simp only [parterreref14_high.l0]
    refine ev_neg (by omega) (ev_eq ?_)
    simp only [hig, mx_eq]
    omega
  | succ d ih =>
    intro i m hd hm
    have hlt : i < w.length := by omega
    refine ev_step ?_
    simp only [parterreref14_high.l0]
    refine ev_pos (by omega) ?_
    refine high_l1 w _ i _ hw hlt _ 0 m rfl (Nat.zero_le _) ?_
    rw [List.drop_zero]
    have hg := hi_ge (wd w i) m
    have := ih (i + 1) (hi m (wd w i)) (by omega) (by omega)
    rw [show i + 1 + d = i + (d + 1) by omega] at this
    refine ev_cast this ?_
    have h1 : hi m (wd w i) = mx m (wH (wd w i)) := by
      have := hi_mx (wd w i) m 0
      rw [show mx m 0 = m by rw [mx_eq]; omega] at this
      exact this
    rw [hig_front, h1]
    simp only [mx_eq]
    omega
theorem high_ev (w : List Wd) (hw : Light w) (hf : Fine w) (f n : Nat) (h : f + n ≤ w.length) : Ev (fun k => parterreref14_high.f k w (f : Int) ((f + n : Nat) : Int)) (hig w f n) := by
  have := high_l0 w hw n f 0 h (Int.le_refl _)
  refine ev_cast this ?_
  have := (hig_le_S hf f n).1
  rw [mx_eq]
  omega
abbrev Lr := S53
def lrOf (w : List Wd) (p : Nat × Nat) : Lr := ⟨(p.1 : Int), ((p.1 + p.2 : Nat) : Int), wid w p.1 p.2, hig w p.1 p.2⟩
theorem reflines_loop (w : List Wd) (a : Int) (hw : Light w) (hf : Fine w) : ∀ d f n : Nat, ∀ out : List Lr, f + n + d = w.length → 1 ≤ n → out.length ≤ f →
    Ev (fun k => parterreref14_Lines.l1 k w a out (f : Int) ((f + n : Nat) : Int)) (out ++ (sp w a d f n).map (lrOf w), 0) := by
  have h6 := hw.1
  intro d
  induction d with
  | zero =>
    intro f n out hd hn ho
    refine ev_step ?_
    simp only [parterreref14_Lines.l1]
    refine ev_neg (by omega) (ev_bind (width_ev w hw hf f n (by omega)) (ev_bind (high_ev w hw hf f n (by omega)) (ev_pos (by omega) ?_)))
    refine ev_step ?_
    simp only [parterreref14_Lines.l0]
    exact ev_neg (by omega) ev_some
  | succ d ih =>
    intro f n out hd hn ho
    have hlt : f + n < w.length := by omega
    have hol : (out ++ [lrOf w (f, n)]).length ≤ f + n := by
      rw [List.length_append]
      show out.length + 1 ≤ f + n
      omega
    have ih1 := ih f (n + 1) out (by omega) (by omega) ho
    have ih2 := ih (f + n) 1 (out ++ [lrOf w (f, n)]) (by omega) (Nat.le_refl _) hol
    rw [show f + (n + 1) = f + n + 1 from rfl] at ih1
    refine ev_step ?_
    simp only [parterreref14_Lines.l1]
    rw [w64 (x := ((f + n : Nat) : Int) + 1) (by omega) (by omega)]
    have hww := width_ev w hw hf f (n + 1) (by omega)
    rw [show f + (n + 1) = f + n + 1 from rfl] at hww
    have hsp : sp w a (d + 1) f n = if wid w f (n + 1) ≤ a then sp w a d f (n + 1) else (f, n) :: sp w a d (f + n) 1 := rfl
    rw [hsp]
    refine ev_pos (by omega) (ev_bind hww (ev_ite (fun h => ?_) (fun h => ?_)))
    · rw [if_pos h]
      exact ih1
    · rw [if_neg h]
      refine ev_bind (width_ev w hw hf f n (by omega)) (ev_bind (high_ev w hw hf f n (by omega)) (ev_pos (by omega) ?_))
      refine ev_step ?_
      simp only [parterreref14_Lines.l0]
      rw [w64 (x := ((f + n : Nat) : Int) + 1) (by omega) (by omega)]
      rw [List.append_assoc, List.singleton_append] at ih2
      exact ev_pos (by omega) ih2
theorem reflines_ev (w : List Wd) (a : Int) (hw : Light w) : Ev (fun k => parterreref14_Lines.f k w a) (if (lookV w).2 = 0 then ((lns w a).map (lrOf w), 0) else ([], (lookV w).2)) := by
  unfold parterreref14_Lines.f
  refine ev_bind (wrong_ev w hw) (ev_ite (fun h => ?_) (fun h => ev_eq ?_))
  · rw [if_pos h]
    obtain ⟨hf, _⟩ := look_fine h
    unfold lns
    refine ev_step ?_
    simp only [parterreref14_Lines.l0]
    by_cases h0 : w.length = 0
    · rw [if_pos h0]
      exact ev_neg (by omega) (ev_eq rfl)
    · rw [if_neg h0]
      have := reflines_loop w a hw hf (w.length - 1) 0 1 [] (by omega) (Nat.le_refl _) (by simp)
      rw [List.nil_append] at this
      rw [w64 (by omega) (by omega)]
      exact ev_pos (by omega) this
  · rw [if_neg h]
theorem refheight_loop (L : List Lr) (e : Int) (hL : L.length ≤ 1000000) (hn : ∀ x ∈ L, 0 ≤ x.f3) : ∀ d i : Nat, ∀ n : Int, L.length - i = d → i ≤ L.length → 0 ≤ n → n + ((L.drop i).map (·.f3)).sum ≤ 17592186044416 →
    Ev (fun k => parterreref14_Height.l0 k L e n (i : Int)) (n + ((L.drop i).map (·.f3)).sum, e) := by
  intro d
  induction d with
  | zero =>
    intro i n hd hi h0 h1
    have : i = L.length := by omega
    subst this
    refine ev_step ?_
    simp only [parterreref14_Height.l0]
    refine ev_neg (by omega) (ev_eq ?_)
    rw [List.drop_length]
    simp
  | succ d ih =>
    intro i n hd hi h0 h1
    have hlt : i < L.length := by omega
    have hg : L.drop i = rd_T53 L (i : Int) :: L.drop (i + 1) := by
      rw [List.drop_eq_getElem_cons hlt]
      congr 1
      simp [rd_T53, List.getD_eq_getElem?_getD, List.getElem?_eq_getElem hlt]
    have hm : rd_T53 L (i : Int) ∈ L := by
      have : rd_T53 L (i : Int) ∈ L.drop i := by rw [hg]; simp
      exact List.mem_of_mem_drop this
    have h2 := hn _ hm
    have h3 : 0 ≤ ((L.drop (i + 1)).map (·.f3)).sum := sum_nonneg (fun x hx => by obtain ⟨b, hb, rfl⟩ := List.mem_map.1 hx; exact hn b (List.mem_of_mem_drop hb))
    rw [hg, List.map_cons, List.sum_cons] at h1 ⊢
    refine ev_step ?_
    simp only [parterreref14_Height.l0]
    refine ev_pos (by omega) (ev_pos (by omega) ?_)
    rw [w64 (x := (i : Int) + 1) (by omega) (by omega), w64 (x := n + (rd_T53 L (i : Int)).f3) (by omega) (by omega)]
    refine ev_cast (ih (i + 1) _ (by omega) (by omega) (by omega) (by omega)) ?_
    rw [Int.add_assoc]
theorem refheight_ev (w : List Wd) (a : Int) (hw : Light w) : Ev (fun k => parterreref14_Height.f k w a) (if (lookV w).2 = 0 then (heightV w a, 0) else (0, (lookV w).2)) := by
  have h6 := hw.1
  unfold parterreref14_Height.f
  refine ev_bind (reflines_ev w a hw) ?_
  by_cases h : (lookV w).2 = 0
  · rw [if_pos h, if_pos h]
    have hf := (look_fine h).1
    have hl := lns_length w a
    have hb := height_bd hf a
    have hs := hf.totS
    have hS : (((lns w a).map (lrOf w)).map (·.f3)).sum = heightV w a := by
      unfold heightV
      rw [List.map_map]
      rfl
    have := refheight_loop ((lns w a).map (lrOf w)) 0 (by simp; omega) (fun x hx => by obtain ⟨p, _, rfl⟩ := List.mem_map.1 hx; exact (hig_le_S hf p.1 p.2).1) _ 0 0 rfl (Nat.zero_le _) (by omega) (by rw [List.drop_zero, hS]; omega)
    rw [List.drop_zero, hS, Int.zero_add] at this
    exact this
  · rw [if_neg h, if_neg h]
    have := refheight_loop [] (lookV w).2 (by simp) (by simp) _ 0 0 rfl (Nat.zero_le _) (by omega) (by simp)
    simpa using this
end Go.Proofs.Ytbjjmilbilapnaa.PureLf
