/- What stands in a leaf, as plain lists, continued: widths and heights in the document's words. Conditions: content of few words that may be. -/
import Derived.Test.YtbjjmilbilapnaaPLfx10
import Derived.Test.YtbjjmilbilapnaaPureLf2
set_option linter.unusedVariables false
set_option linter.unusedSimpArgs false
namespace Go.Proofs.Ytbjjmilbilapnaa.PureLf
open Go.RowKit Go.Proofs.YtbjjmilbilapnaaW.PrintWords Go.Proofs.YtbjjmilbilapnaaW.PrintMore Go.Proofs.Ytbjjmilbilapnaa.Evs Go.Proofs.Ytbjjmilbilapnaa.Opn Go.Proofs.Ytbjjmilbilapnaa.PLf

theorem width_l1 (w : List Wd) (t : Int) (i : Nat) (r : Int) (hw : Light w) (hlt : i < w.length) (ho : OkW (wd w i)) : ∀ d j : Nat, ∀ a : Int, (wd w i).length - j = d → j ≤ (wd w i).length → 0 ≤ a → a + wW ((wd w i).drop j) ≤ 17592186044416 →
    Ev (fun k => parterreref14_Width.l0 k w t (a + wW ((wd w i).drop j)) ((i + 1 : Nat) : Int)) r → Ev (fun k => parterreref14_Width.l1 k w t a (i : Int) (j : Int)) r := by
  have h6 := hw.1
  have hl := hw.2 _ (wd_mem hlt)
  intro d
  induction d with
  | zero =>
    intro j a hd hj ha h1 hk
    have : j = (wd w i).length := by omega
    subst this
    rw [List.drop_length] at hk
    refine ev_step ?_
    simp only [parterreref14_Width.l1, rd_wd]
    rw [w64 (x := (i : Int) + 1) (by omega) (by omega)]
    refine ev_pos (by omega) (ev_pos (by omega) (ev_neg (by omega) ?_))
    simpa [wW] using hk
  | succ d ih =>
    intro j a hd hj ha h1 hk
    have hlj : j < (wd w i).length := by omega
    have hb1 := ho _ (bx_mem hlj)
    have hn1 := wW_nonneg (ho.drop (j + 1))
    rw [drop_bx hlj, wW_cons] at h1
    rw [drop_bx hlj, wW_cons, ← Int.add_assoc] at hk
    unfold side at hb1
    refine ev_step ?_
    simp only [parterreref14_Width.l1, rd_wd, rd_bx]
    rw [w64 (x := (j : Int) + 1) (by omega) (by omega), w64 (x := a + (bx (wd w i) j).f0) (by omega) (by omega)]
    exact ev_pos (by omega) (ev_pos (by omega) (ev_pos (by omega) (ev_pos (by omega) (ih (j + 1) _ (by omega) (by omega) (by omega) (by omega) hk))))
theorem width_l0 (w : List Wd) (hw : Light w) (hf : Fine w) : ∀ d i : Nat, ∀ a : Int, i + d ≤ w.length → 0 ≤ a → a + wid w i d ≤ 17592186044416 →
    Ev (fun k => parterreref14_Width.l0 k w ((i + d : Nat) : Int) a (i : Int)) (a + wid w i d) := by
  intro d
  induction d with
  | zero =>
    intro i a hd ha h1
    refine ev_step ?_
    simp only [parterreref14_Width.l0]
    refine ev_neg (by omega) (ev_eq ?_)
    simp [wid]
  | succ d ih =>
    intro i a hd ha h1
    have hlt : i < w.length := by omega
    have ho := hf.ok _ (wd_mem hlt)
    have hn := wid_nonneg hf (i + 1) d
    have hn2 := wW_nonneg ho
    rw [wid_front] at h1 ⊢
    refine ev_step ?_
    simp only [parterreref14_Width.l0]
    refine ev_pos (by omega) ?_
    refine width_l1 w _ i _ hw hlt ho _ 0 a rfl (Nat.zero_le _) ha (by rw [List.drop_zero]; omega) ?_
    rw [List.drop_zero]
    have := ih (i + 1) (a + wW (wd w i)) (by omega) (by omega) (by omega)
    rw [show i + 1 + d = i + (d + 1) by omega, Int.add_assoc] at this
    exact this
theorem width_ev (w : List Wd) (hw : Light w) (hf : Fine w) (f n : Nat) (h : f + n ≤ w.length) : Ev (fun k => parterreref14_Width.f k w (f : Int) ((f + n : Nat) : Int)) (wid w f n) := by
  have h1 := wid_tot hf f n
  have h2 := hf.totW
  have := width_l0 w hw hf n f 0 h (by omega) (by omega)
  rw [Int.zero_add] at this
  exact this
end Go.Proofs.Ytbjjmilbilapnaa.PureLf
