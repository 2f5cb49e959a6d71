/- What stands in a leaf, as plain lists, continued: words, lines, heights. Conditions: content of few words that may be. -/
import Derived.Test.YtbjjmilbilapnaaPLfx6
import Derived.Test.YtbjjmilbilapnaaPLfx7
import Derived.Test.YtbjjmilbilapnaaPLfx8
import Derived.Test.YtbjjmilbilapnaaPLfx9
import Derived.Test.YtbjjmilbilapnaaPLfx10
import Derived.Test.YtbjjmilbilapnaaPureLf
set_option linter.unusedVariables false
set_option linter.unusedSimpArgs false
namespace Go.Proofs.Ytbjjmilbilapnaa.PureLf
open Go.RowKit Go.Proofs.YtbjjmilbilapnaaW.PrintWords Go.Proofs.YtbjjmilbilapnaaW.PrintMore Go.Proofs.Ytbjjmilbilapnaa.Evs Go.Proofs.Ytbjjmilbilapnaa.Opn Go.Proofs.Ytbjjmilbilapnaa.PLf

/-- The greatest height from one on. -/
def hi (n : Int) (l : Wd) : Int := l.foldl (fun n b => mx n b.f1) n
theorem hi_cons (n : Int) (b : Bx) (l : Wd) : hi n (b :: l) = hi (mx n b.f1) l := rfl
theorem hi_mx : ∀ (l : Wd) (n m : Int), hi (mx n m) l = mx n (hi m l)
  | [], n, m => rfl
  | b :: r, n, m => by
    rw [hi_cons, hi_cons]
    have : mx (mx n m) b.f1 = mx n (mx m b.f1) := by simp only [mx_eq]; omega
    rw [this]
    exact hi_mx r n (mx m b.f1)
theorem wH_hi (l : Wd) : wH l = hi 0 l := rfl
theorem hi_ge (l : Wd) (n : Int) : n ≤ hi n l := by
  have h : mx n n = n := by rw [mx_eq]; omega
  have := hi_mx l n n
  rw [h] at this
  rw [mx_eq] at this
  omega
theorem wH_nonneg (l : Wd) : 0 ≤ wH l := hi_ge l 0

/-! ### a word -/
theorem word_loop (l : Wd) (f t : Int) (hl : l.length ≤ 600) (ho : OkW l) : ∀ d j : Nat, ∀ a n : Int, l.length - j = d → j ≤ l.length → 0 ≤ a → a + wW (l.drop j) ≤ 17592186044416000 →
    Ev (fun k => leaf_word.l0 k l (l.length : Int) (j : Int) f t a n) (f, t, a + wW (l.drop j), hi n (l.drop j)) := by
  intro d
  induction d with
  | zero =>
    intro j a n hd hj ha h1
    have : j = l.length := by omega
    subst this
    refine ev_step ?_
    simp only [leaf_word.l0]
    refine ev_neg (by omega) (ev_eq ?_)
    rw [List.drop_length]
    simp [wW, hi]
  | succ d ih =>
    intro j a n hd hj ha h1
    have hlt : j < l.length := by omega
    have hb1 := ho _ (bx_mem hlt)
    have hn1 := wW_nonneg (ho.drop (j + 1))
    rw [drop_bx hlt, wW_cons] at h1 ⊢
    unfold side at hb1
    refine ev_step ?_
    simp only [leaf_word.l0, rd_bx]
    rw [w64 (x := (j : Int) + 1) (by omega) (by omega), w64 (x := a + (bx l j).f0) (by omega) (by omega)]
    refine ev_pos (by omega) (ev_pos (by omega) (ev_pos (by omega) (ev_cast (ih (j + 1) _ _ (by omega) (by omega) (by omega) (by omega)) ?_)))
    rw [hi_cons, Int.add_assoc]
theorem word_ev (l : Wd) (i : Nat) (hl : l.length ≤ 600) (hi : i ≤ 600) (ho : OkW l) : Ev (fun k => leaf_word.f k l (i : Int)) ((i : Int), (i : Int) + 1, wW l, wH l) := by
  have h2 := wW_le ho
  have := word_loop l i ((i : Int) + 1) hl ho _ 0 0 0 rfl (Nat.zero_le _) (by omega) (by rw [List.drop_zero]; omega)
  rw [List.drop_zero, Int.zero_add] at this
  unfold leaf_word.f
  rw [w64 (by omega) (by omega)]
  exact this

/-! ### some words from one on: width and height -/
def wid (w : List Wd) (f : Nat) : Nat → Int
  | 0 => 0
  | n + 1 => wid w f n + wW (wd w (f + n))
def hig (w : List Wd) (f : Nat) : Nat → Int
  | 0 => 0
  | n + 1 => mx (hig w f n) (wH (wd w (f + n)))

theorem wd_ok {w : List Wd} (hf : Fine w) (i : Nat) : OkW (wd w i) := by
  by_cases h : i < w.length
  · exact hf.ok _ (wd_mem h)
  · unfold wd
    rw [List.getD_eq_getElem?_getD, List.getElem?_eq_none (by omega)]
    intro b hb
    simp at hb
theorem wid_nonneg {w : List Wd} (hf : Fine w) (f : Nat) : ∀ n, 0 ≤ wid w f n
  | 0 => by simp [wid]
  | n + 1 => by
    have h1 := wid_nonneg hf f n
    have h2 := wW_nonneg (wd_ok hf (f + n))
    simp only [wid]
    omega
theorem wid_all (w : List Wd) (f : Nat) : ∀ n, wid w f n = tot wW ((w.drop f).take n)
  | 0 => by simp [wid, tot]
  | n + 1 => by
    simp only [wid]
    rw [wid_all w f n]
    by_cases h : f + n < w.length
    · rw [List.take_succ_eq_append_getElem (by simp; omega)]
      simp [tot, wd, List.getD_eq_getElem?_getD, List.getElem?_eq_getElem h]
    · rw [List.take_of_length_le (by simp; omega), List.take_of_length_le (by simp; omega)]
      simp [wd, List.getD_eq_getElem?_getD, List.getElem?_eq_none (show w.length ≤ f + n by omega), wW]
theorem wid_front (w : List Wd) (f : Nat) : ∀ n, wid w f (n + 1) = wW (wd w f) + wid w (f + 1) n
  | 0 => by simp [wid]
  | n + 1 => by
    rw [wid, wid_front w f n]
    simp only [wid]
    rw [show f + (n + 1) = f + 1 + n by omega]
    omega
theorem wid_le_front {w : List Wd} (hf : Fine w) (f n : Nat) : wid w (f + 1) n ≤ wid w f (n + 1) := by
  rw [wid_front]
  have := wW_nonneg (wd_ok hf f)
  omega
theorem wid_mono {w : List Wd} (hf : Fine w) (f : Nat) {n m : Nat} (h : n ≤ m) : wid w f n ≤ wid w f m := by
  induction h with
  | refl => exact Int.le_refl _
  | step h ih =>
    rename_i m
    have := wW_nonneg (wd_ok hf (f + m))
    simp only [wid]
    omega
/-- A part that begins further behind is not wider. -/
theorem wid_later {w : List Wd} (hf : Fine w) : ∀ {f g t : Nat}, f ≤ g → wid w g (t - g) ≤ wid w f (t - f) := by
  intro f g t h
  induction h with
  | refl => exact Int.le_refl _
  | step h ih =>
    rename_i m
    by_cases hm : m + 1 ≤ t
    · refine Int.le_trans ?_ ih
      have := wid_le_front hf m (t - (m + 1))
      rw [show t - m = t - (m + 1) + 1 by omega]
      exact this
    · rw [show t - (m + 1) = 0 by omega]
      exact wid_nonneg hf _ _
theorem wid_tot {w : List Wd} (hf : Fine w) (f n : Nat) : wid w f n ≤ tot wW w := by
  have h1 : wid w f n ≤ wid w f (w.length + n) := wid_mono hf f (by omega)
  have h2 := wid_later hf (f := 0) (g := f) (t := f + (w.length + n)) (Nat.zero_le _)
  rw [show f + (w.length + n) - f = w.length + n by omega, Nat.sub_zero] at h2
  have h3 : wid w 0 (f + (w.length + n)) = tot wW w := by
    rw [wid_all, List.drop_zero, List.take_of_length_le (by omega)]
  omega

/-! ### lines -/
/-- Lines as (first word, number of words), from a line on that has n words already; d words are still to come. -/
def sp (w : List Wd) (a : Int) : Nat → Nat → Nat → List (Nat × Nat)
  | 0, f, n => [(f, n)]
  | d + 1, f, n => if wid w f (n + 1) ≤ a then sp w a d f (n + 1) else (f, n) :: sp w a d (f + n) 1
def lns (w : List Wd) (a : Int) : List (Nat × Nat) := if w.length = 0 then [] else sp w a (w.length - 1) 0 1
def lnOf (w : List Wd) (p : Nat × Nat) : Ln := ⟨(p.1 : Int), ((p.1 + p.2 : Nat) : Int), wid w p.1 p.2, hig w p.1 p.2⟩
theorem ended_ln (w : List Wd) (out : List Ln) (p : Nat × Nat) (h : 1 ≤ p.2) : leaf_Lines.ended out (lnOf w p) = out ++ [lnOf w p] := by
  unfold leaf_Lines.ended
  rw [if_neg]
  rw [leaf_Lines.zero_iff]
  intro hz
  have := hz.2.1
  simp only [lnOf] at this
  omega
theorem lines_loop (w : List Wd) (a : Int) (hw : Light w) (hf : Fine w) : ∀ d f n : Nat, ∀ out : List Ln, f + n + d = w.length → 1 ≤ n → out.length ≤ f →
    Ev (fun k => leaf_Lines.l0 k w a ((f + n : Nat) : Int) out (lnOf w (f, n))) (out ++ (sp w a d f n).map (lnOf w), 0) := by
  have h6 := hw.1
  have hT := hf.totW
  intro d
  induction d with
  | zero =>
    intro f n out hd hn ho
    refine ev_step ?_
    simp only [leaf_Lines.l0]
    refine ev_pos (by omega) (ev_neg (by omega) (ev_eq ?_))
    rw [ended_ln w out (f, n) hn]
    simp [sp]
  | succ d ih =>
    intro f n out hd hn ho
    have hlt : f + n < w.length := by omega
    have hww := wid_tot hf f (n + 1)
    have hw0 := wid_nonneg hf f n
    have hw1 := wW_nonneg (wd_ok hf (f + n))
    have hwid : wid w f (n + 1) = wid w f n + wW (wd w (f + n)) := rfl
    refine ev_step ?_
    simp only [leaf_Lines.l0, rd_wd]
    refine ev_pos (by omega) (ev_pos (by omega) (ev_pos (by omega) (ev_bind (word_ev (wd w (f + n)) (f + n) (hw.2 _ (wd_mem hlt)) (by omega) (hf.ok _ (wd_mem hlt))) ?_)))
    have hpos : ((f + n : Nat) : Int) > 0 := by omega
    have hb1 : -9223372036854775808 ≤ wid w f n + wW (wd w (f + n)) := by omega
    have hb2 : wid w f n + wW (wd w (f + n)) ≤ 9223372036854775807 := by omega
    have hi1 : -9223372036854775808 ≤ ((f + n : Nat) : Int) + 1 := by omega
    have hi2 : ((f + n : Nat) : Int) + 1 ≤ 9223372036854775807 := by omega
    have hd1 : f + (n + 1) + d = w.length := by omega
    have hd2 : f + n + 1 + d = w.length := by omega
    have hn1 : 1 ≤ n + 1 := by omega
    have hol : (out ++ [lnOf w (f, n)]).length ≤ f + n := by
      rw [List.length_append]
      show out.length + 1 ≤ f + n
      omega
    have ih1 := ih f (n + 1) out hd1 hn1 ho
    have ih2 := ih (f + n) 1 (out ++ [lnOf w (f, n)]) hd2 (Nat.le_refl _) hol
    rw [show f + (n + 1) = f + n + 1 from rfl] at ih1
    clear ih hww hw0 hw1 hwid hd hd1 hd2 ho hol hT h6
    have e2 : lnOf w (f, n + 1) = (⟨(f : Int), ((f + n : Nat) : Int) + 1, wid w f n + wW (wd w (f + n)), mx (hig w f n) (wH (wd w (f + n)))⟩ : Ln) := rfl
    have e3 : lnOf w (f + n, 1) = (⟨((f + n : Nat) : Int), ((f + n : Nat) : Int) + 1, wW (wd w (f + n)), wH (wd w (f + n))⟩ : Ln) := by
      have h1 : wid w (f + n) 1 = wW (wd w (f + n)) := by simp [wid]
      have h2 : hig w (f + n) 1 = wH (wd w (f + n)) := by
        have := wH_nonneg (wd w (f + n))
        simp only [hig, Nat.add_zero, mx_eq]
        omega
      unfold lnOf
      rw [h1, h2]
      rfl
    rw [e2] at ih1
    rw [e3, List.append_assoc, List.singleton_append] at ih2
    have e5 := ended_ln w out (f, n) hn
    rw [← e5] at ih2
    have hsp : sp w a (d + 1) f n = if wid w f n + wW (wd w (f + n)) ≤ a then sp w a d f (n + 1) else (f, n) :: sp w a d (f + n) 1 := rfl
    rw [hsp]
    by_cases hc : wid w f n + wW (wd w (f + n)) ≤ a
    · rw [if_pos hc]
      refine ev_pos ⟨hpos, ?_⟩ ?_
      · show wrap64 (wid w f n + wW (wd w (f + n))) ≤ a
        rw [w64 hb1 hb2]
        exact hc
      · show Ev (fun k => leaf_Lines.l0 k w a (wrap64 (((f + n : Nat) : Int) + 1)) out ⟨(f : Int), ((f + n : Nat) : Int) + 1, wrap64 (wid w f n + wW (wd w (f + n))), mx (hig w f n) (wH (wd w (f + n)))⟩) _
        rw [w64 hb1 hb2, w64 hi1 hi2]
        exact ih1
    · rw [if_neg hc]
      refine ev_neg (fun h => hc ?_) ?_
      · have h2 : wrap64 (wid w f n + wW (wd w (f + n))) ≤ a := h.2
        rw [w64 hb1 hb2] at h2
        exact h2
      · show Ev (fun k => leaf_Lines.l0 k w a (wrap64 (((f + n : Nat) : Int) + 1)) (leaf_Lines.ended out (lnOf w (f, n))) ⟨((f + n : Nat) : Int), ((f + n : Nat) : Int) + 1, wW (wd w (f + n)), wH (wd w (f + n))⟩) _
        rw [w64 hi1 hi2]
        exact ih2
/-- What 'Lines' tells. -/
def linesV (w : List Wd) (a : Int) : List Ln × Int := if (lookV w).2 = 0 then ((lns w a).map (lnOf w), 0) else ([], (lookV w).2)
theorem look_fine {w : List Wd} (h : (lookV w).2 = 0) : Fine w ∧ tot wW w ≤ 68719476736 ∧ tot wS w ≤ 68719476736 ∧ (lookV w).1 = tot wW w := by
  unfold lookV at h ⊢
  split at h
  · rename_i h1
    split at h
    · rename_i h2
      rw [if_pos h1, if_pos h2]
      exact ⟨fine_of h1, h2.1, h2.2, rfl⟩
    · cases h
  · cases h
theorem lines_ev (w : List Wd) (a : Int) (hw : Light w) : Ev (fun k => leaf_Lines.f k w a) (linesV w a) := by
  unfold leaf_Lines.f linesV
  refine ev_bind (look_ev w hw) (ev_ite (fun h => ?_) (fun h => ev_eq ?_))
  · rw [if_pos h]
    obtain ⟨hf, hT, _⟩ := look_fine h
    have h6 := hw.1
    unfold lns
    refine ev_step ?_
    simp only [leaf_Lines.l0]
    refine ev_pos (by simp) ?_
    by_cases h0 : w.length = 0
    · rw [if_pos h0]
      refine ev_neg (by omega) (ev_eq ?_)
      simp [leaf_Lines.ended, leaf_Lines.zero]
    · rw [if_neg h0]
      have hlt : 0 < w.length := by omega
      refine ev_pos (by omega) (ev_pos (by omega) ?_)
      have hwd := word_ev (wd w 0) 0 (hw.2 _ (wd_mem hlt)) (by omega) (hf.ok _ (wd_mem hlt))
      have hrd : rd_L2 w 0 = wd w 0 := rd_wd w 0
      rw [hrd]
      refine ev_bind hwd (ev_neg (fun h => absurd h.1 (by simp)) ?_)
      have e0 : leaf_Lines.ended [] (⟨0, 0, 0, 0⟩ : Ln) = [] := by simp [leaf_Lines.ended, leaf_Lines.zero]
      have e3 : (⟨((0 : Nat) : Int), ((0 : Nat) : Int) + 1, wW (wd w 0), wH (wd w 0)⟩ : Ln) = lnOf w (0, 1) := by
        have h1 : wid w 0 1 = wW (wd w 0) := by simp [wid]
        have h2 : hig w 0 1 = wH (wd w 0) := by
          have := wH_nonneg (wd w 0)
          simp only [hig, Nat.add_zero, mx_eq]
          omega
        unfold lnOf
        rw [h1, h2]
        rfl
      have := lines_loop w a hw hf (w.length - 1) 0 1 [] (by omega) (by omega) (by simp)
      rw [← e3, List.nil_append] at this
      rw [e0, w64 (by omega) (by omega)]
      exact this
  · rw [if_neg h]

/-! ### Min, Max, Height -/
def minV (w : List Wd) : Int := w.foldl (fun n l => mx n (wW l)) 0
theorem min_loop (w : List Wd) (hw : Light w) (hf : Fine w) : ∀ d i : Nat, ∀ n : Int, w.length - i = d → i ≤ w.length → Ev (fun k => leaf_Min.l0 k n w (w.length : Int) (i : Int)) ((w.drop i).foldl (fun n l => mx n (wW l)) n, 0) := by
  have h6 := hw.1
  intro d
  induction d with
  | zero =>
    intro i n hd hi
    have : i = w.length := by omega
    subst this
    refine ev_step ?_
    simp only [leaf_Min.l0]
    refine ev_neg (by omega) (ev_eq ?_)
    rw [List.drop_length]
    rfl
  | succ d ih =>
    intro i n hd hi
    have hlt : i < w.length := by omega
    refine ev_step ?_
    simp only [leaf_Min.l0, rd_wd]
    refine ev_pos (by omega) (ev_pos (by omega) (ev_pos (by omega) (ev_bind (word_ev (wd w i) i (hw.2 _ (wd_mem hlt)) (by omega) (hf.ok _ (wd_mem hlt))) ?_)))
    rw [w64 (by omega) (by omega), drop_wd hlt]
    exact ih (i + 1) _ (by omega) (by omega)
theorem min_ev (w : List Wd) (hw : Light w) : Ev (fun k => leaf_Min.f k w) (if (lookV w).2 = 0 then (minV w, 0) else (0, (lookV w).2)) := by
  unfold leaf_Min.f
  refine ev_bind (look_ev w hw) (ev_ite (fun h => ?_) (fun h => ev_eq ?_))
  · rw [if_pos h]
    have := min_loop w hw (look_fine h).1 _ 0 0 rfl (Nat.zero_le _)
    exact this
  · rw [if_neg h]
theorem max_ev (w : List Wd) (hw : Light w) : Ev (fun k => leaf_Max.f k w) (lookV w) := by
  unfold leaf_Max.f
  exact ev_bind (look_ev w hw) ev_some

theorem hig_le_S {w : List Wd} (hf : Fine w) : ∀ f n : Nat, 0 ≤ hig w f n ∧ hig w f n ≤ tot wS ((w.drop f).take n)
  | f, 0 => by simp [hig, tot]
  | f, n + 1 => by
    have h1 := hig_le_S hf f n
    have hw := wd_ok hf (f + n)
    have h2 : wH (wd w (f + n)) ≤ wS (wd w (f + n)) := by
      have : ∀ (l : Wd) (m : Int), OkW l → 0 ≤ m → hi m l ≤ m + wS l := by
        intro l
        induction l with
        | nil => intro m _ _; simp [hi, wS]
        | cons b r ih =>
          intro m ho hm
          have hb := ho b (by simp)
          unfold side at hb
          rw [hi_cons, wS_cons]
          have := ih (mx m b.f1) ho.tail (by rw [mx_eq]; omega)
          rw [mx_eq] at this ⊢
          omega
      have := this (wd w (f + n)) 0 hw (by omega)
      rw [wH_hi]
      omega
    have h3 : tot wS ((w.drop f).take (n + 1)) = tot wS ((w.drop f).take n) + wS (wd w (f + n)) := by
      by_cases h : f + n < w.length
      · rw [List.take_succ_eq_append_getElem (by simp; omega)]
        simp [tot, wd, List.getD_eq_getElem?_getD, List.getElem?_eq_getElem h]
      · rw [List.take_of_length_le (by simp; omega), List.take_of_length_le (by simp; omega)]
        simp [wd, List.getD_eq_getElem?_getD, List.getElem?_eq_none (show w.length ≤ f + n by omega), wS]
    have h4 := wS_nonneg hw
    simp only [hig, mx_eq]
    omega
theorem tot_append (f : Wd → Int) (a b : List Wd) : tot f (a ++ b) = tot f a + tot f b := by simp [tot]
/-- All lines' heights together are no more than all boxes'. -/
theorem sp_S {w : List Wd} (hf : Fine w) (a : Int) : ∀ d f n : Nat, f + n + d = w.length → 0 ≤ ((sp w a d f n).map (fun p => hig w p.1 p.2)).sum ∧ ((sp w a d f n).map (fun p => hig w p.1 p.2)).sum ≤ tot wS (w.drop f)
  | 0, f, n, h => by
    have := hig_le_S hf f n
    simp only [sp, List.map_cons, List.map_nil, List.sum_cons, List.sum_nil]
    rw [List.take_of_length_le (by simp; omega)] at this
    omega
  | d + 1, f, n, h => by
    simp only [sp]
    split
    · exact sp_S hf a d f (n + 1) (by omega)
    · have h1 := sp_S hf a d (f + n) 1 (by omega)
      have h2 := hig_le_S hf f n
      have h3 : w.drop f = (w.drop f).take n ++ w.drop (f + n) := by rw [← List.drop_drop, List.take_append_drop]
      rw [h3, tot_append]
      simp only [List.map_cons, List.sum_cons]
      omega
def heightV (w : List Wd) (a : Int) : Int := ((lns w a).map (fun p => hig w p.1 p.2)).sum
theorem height_bd {w : List Wd} (hf : Fine w) (a : Int) : 0 ≤ heightV w a ∧ heightV w a ≤ tot wS w := by
  unfold heightV lns
  split
  · have := hf.totS
    simp
    omega
  · have := sp_S hf a (w.length - 1) 0 1 (by omega)
    rw [List.drop_zero] at this
    exact this
theorem height_loop (L : List Ln) (e : Int) (hL : L.length ≤ 1000000) (hn : ∀ x ∈ L, 0 ≤ x.f3) : ∀ d i : Nat, ∀ n : Int, L.length - i = d → i ≤ L.length → 0 ≤ n → n + ((L.drop i).map (·.f3)).sum ≤ 17592186044416 →
    Ev (fun k => leaf_Height.l0 k n e L (L.length : Int) (i : Int)) (n + ((L.drop i).map (·.f3)).sum, e) := by
  intro d
  induction d with
  | zero =>
    intro i n hd hi h0 h1
    have : i = L.length := by omega
    subst this
    refine ev_step ?_
    simp only [leaf_Height.l0]
    refine ev_neg (by omega) (ev_eq ?_)
    rw [List.drop_length]
    simp
  | succ d ih =>
    intro i n hd hi h0 h1
    have hlt : i < L.length := by omega
    have hg : L.drop i = rd_T54 L (i : Int) :: L.drop (i + 1) := by
      rw [List.drop_eq_getElem_cons hlt]
      congr 1
      simp [rd_T54, List.getD_eq_getElem?_getD, List.getElem?_eq_getElem hlt]
    have hm : rd_T54 L (i : Int) ∈ L := by
      have : rd_T54 L (i : Int) ∈ L.drop i := by rw [hg]; simp
      exact List.mem_of_mem_drop this
    have h2 := hn _ hm
    have h3 : 0 ≤ ((L.drop (i + 1)).map (·.f3)).sum := sum_nonneg (fun x hx => by obtain ⟨b, hb, rfl⟩ := List.mem_map.1 hx; exact hn b (List.mem_of_mem_drop hb))
    rw [hg, List.map_cons, List.sum_cons] at h1 ⊢
    refine ev_step ?_
    simp only [leaf_Height.l0]
    refine ev_pos (by omega) (ev_pos (by omega) (ev_pos (by omega) ?_))
    rw [w64 (x := (i : Int) + 1) (by omega) (by omega), w64 (x := n + (rd_T54 L (i : Int)).f3) (by omega) (by omega)]
    refine ev_cast (ih (i + 1) _ (by omega) (by omega) (by omega) (by omega)) ?_
    rw [Int.add_assoc]
theorem sp_length (w : List Wd) (a : Int) : ∀ d f n : Nat, (sp w a d f n).length ≤ d + 1
  | 0, f, n => by simp [sp]
  | d + 1, f, n => by
    simp only [sp]
    split
    · have := sp_length w a d f (n + 1)
      omega
    · have := sp_length w a d (f + n) 1
      simp only [List.length_cons]
      omega
theorem lns_length (w : List Wd) (a : Int) : (lns w a).length ≤ w.length := by
  unfold lns
  split
  · simp
  · have := sp_length w a (w.length - 1) 0 1
    omega
theorem height_ev (w : List Wd) (a : Int) (hw : Light w) : Ev (fun k => leaf_Height.f k w a) (if (lookV w).2 = 0 then (heightV w a, 0) else (0, (lookV w).2)) := by
  have h6 := hw.1
  unfold leaf_Height.f
  refine ev_bind (lines_ev w a hw) ?_
  unfold linesV
  by_cases h : (lookV w).2 = 0
  · rw [if_pos h, if_pos h]
    have hf := (look_fine h).1
    have hl := lns_length w a
    have hb := height_bd hf a
    have hs := hf.totS
    have hS : (((lns w a).map (lnOf w)).map (·.f3)).sum = heightV w a := by
      unfold heightV
      rw [List.map_map]
      rfl
    have := height_loop ((lns w a).map (lnOf w)) 0 (by simp; omega) (fun x hx => by obtain ⟨p, _, rfl⟩ := List.mem_map.1 hx; exact (hig_le_S hf p.1 p.2).1) _ 0 0 rfl (Nat.zero_le _) (by omega) (by rw [List.drop_zero, hS]; omega)
    rw [List.drop_zero, hS, Int.zero_add] at this
    exact this
  · rw [if_neg h, if_neg h]
    have := height_loop [] (lookV w).2 (by simp) (by simp) _ 0 0 rfl (Nat.zero_le _) (by omega) (by simp)
    simpa using this

/-! ### the chapter's example -/
theorem lives_ev : Ev (fun k => parterrelaw14_lives.f k) true := by
  have hl : Light [[(⟨10, 1⟩ : Bx)], [(⟨20, 2⟩ : Bx)], [(⟨5, 3⟩ : Bx)]] := by
    refine ⟨by decide, ?_⟩
    intro l hl
    simp at hl
    rcases hl with rfl | rfl | rfl <;> decide
  unfold parterrelaw14_lives.f
  refine ev_let ?_
  refine ev_bind (lines_ev _ 25 hl) (ev_bind (height_ev _ 25 hl) (ev_bind (min_ev _ hl) (ev_bind (max_ev _ hl) ?_)))
  refine ev_pos (by decide +kernel) (ev_pos (by decide +kernel) (ev_pos (by decide +kernel) (ev_pos (by decide +kernel) (ev_pos (by decide +kernel) (ev_pos (by decide +kernel) (ev_pos (by decide +kernel) (ev_pos (by decide +kernel) (ev_eq (by decide +kernel)))))))))
end Go.Proofs.Ytbjjmilbilapnaa.PureLf
