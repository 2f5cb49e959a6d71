/- LeafTells, as a statement on lists and numbers. Conditions: none beyond the arguments' own kinds. -/
import Derived.Test.YtbjjmilbilapnaaPLfx18
import Derived.Test.YtbjjmilbilapnaaPureLf4
set_option linter.unusedVariables false
set_option linter.unusedSimpArgs false
namespace Go.Proofs.Ytbjjmilbilapnaa.Pure
open Go.RowKit Go.Proofs.YtbjjmilbilapnaaW.PrintWords Go.Proofs.YtbjjmilbilapnaaW.PrintMore Go.Proofs.Ytbjjmilbilapnaa.Evs Go.Proofs.Ytbjjmilbilapnaa.Opn Go.Proofs.Ytbjjmilbilapnaa.PLf Go.Proofs.Ytbjjmilbilapnaa.PureLf

theorem tells_loop (w : List Wd) (ps : List (Nat × Nat)) (hp : ps.length ≤ 600) : ∀ d i : Nat, ps.length - i = d → i ≤ ps.length →
    Ev (fun k => parterrelaw14_LeafTells.l0 k (ps.map (lnOf w)) (ps.map (lrOf w)) ((ps.map (lnOf w)).length : Int) (i : Int)) true := by
  have hl1 : (ps.map (lnOf w)).length = ps.length := List.length_map _
  have hl2 : (ps.map (lrOf w)).length = ps.length := List.length_map _
  intro d
  induction d with
  | zero =>
    intro i hd hi
    refine ev_step ?_
    simp only [parterrelaw14_LeafTells.l0]
    exact ev_neg (by omega) (ev_bind_some lives_ev)
  | succ d ih =>
    intro i hd hi
    have hlt : i < ps.length := by omega
    have hr : rd_T54 (ps.map (lnOf w)) (i : Int) = lnOf w ps[i] := by
      simp [rd_T54, List.getD_eq_getElem?_getD, List.getElem?_eq_getElem hlt]
    have hr2 : rd_T53 (ps.map (lrOf w)) (i : Int) = lrOf w ps[i] := by
      simp [rd_T53, List.getD_eq_getElem?_getD, List.getElem?_eq_getElem hlt]
    refine ev_step ?_
    simp only [parterrelaw14_LeafTells.l0, hr, hr2]
    refine ev_pos (by omega) (ev_pos (by omega) (ev_pos (by omega) (ev_pos (by omega) (ev_neg ?_ ?_))))
    · simp [lnOf, lrOf]
    · rw [w64 (by omega) (by omega)]
      exact ih (i + 1) (by omega) (by omega)
theorem LeafTells : parterrelaw14_LeafTells.Pure := by
  intro w a hg ha
  have hg1 := hg.1
  refine Ev.rounds ?_
  unfold parterrelaw14_LeafTells.f
  obtain ⟨c, hc, hl⟩ := light_ev w (by omega)
  refine ev_bind hc (ev_ite (fun h => ?_) (fun h => ev_bind_some lives_ev))
  have hw := hl h
  have h6 := hw.1
  have same : ∀ x : Int, (x != x) = false := fun x => by simp
  refine ev_bind (min_ev w hw) (ev_bind (refmin_ev w hw) (ev_pos rfl ?_))
  rw [same]
  refine ev_step ?_
  simp only [parterrelaw14_LeafTells.j0]
  refine ev_neg (by simp) (ev_bind (max_ev w hw) (ev_bind (refmax_ev w hw) (ev_pos rfl ?_)))
  rw [same]
  refine ev_step ?_
  simp only [parterrelaw14_LeafTells.j1]
  refine ev_neg (by simp) (ev_bind (height_ev w a hw) (ev_bind (refheight_ev w a hw) (ev_pos rfl ?_)))
  rw [same]
  refine ev_step ?_
  simp only [parterrelaw14_LeafTells.j2]
  refine ev_neg (by simp) (ev_bind (lines_ev w a hw) (ev_bind (reflines_ev w a hw) ?_))
  unfold linesV
  have hl := lns_length w a
  have fin : ∀ (ps : List (Nat × Nat)) (e : Int), ps.length ≤ 600 → Ev (fun k => if (((ps.map (lnOf w), e) : List Ln × Int).1.length : Int) = (((ps.map (lrOf w), e) : List Lr × Int).1.length : Int) then parterrelaw14_LeafTells.j3 k ((ps.map (lnOf w), e) : List Ln × Int).1 ((ps.map (lrOf w), e) : List Lr × Int).1 (((ps.map (lnOf w), e) : List Ln × Int).2 != ((ps.map (lrOf w), e) : List Lr × Int).2) else parterrelaw14_LeafTells.j3 k ((ps.map (lnOf w), e) : List Ln × Int).1 ((ps.map (lrOf w), e) : List Lr × Int).1 true) true := by
    intro ps e hps
    refine ev_pos (by simp) ?_
    rw [same]
    refine ev_step ?_
    simp only [parterrelaw14_LeafTells.j3]
    exact ev_neg (by simp) (tells_loop w ps hps _ 0 rfl (Nat.zero_le _))
  by_cases h0 : (lookV w).2 = 0
  · rw [if_pos h0, if_pos h0]
    exact fin (lns w a) 0 (by omega)
  · rw [if_neg h0, if_neg h0]
    exact fin [] (lookV w).2 (by simp)
end Go.Proofs.Ytbjjmilbilapnaa.Pure
