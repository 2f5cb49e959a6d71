/- NamesFinds, as a statement on lists and numbers. Conditions: none beyond the arguments' own kinds. -/
import Derived.Test.YtbjjmilbilapnaaPNmx10
import Derived.Test.YtbjjmilbilapnaaPNmx12
import Derived.Test.YtbjjmilbilapnaaPureNm2
set_option linter.unusedVariables false
namespace Go.Proofs.Ytbjjmilbilapnaa.Pure
open Go.RowKit Go.Proofs.YtbjjmilbilapnaaW.PrintWords Go.Proofs.YtbjjmilbilapnaaW.PrintMore Go.Proofs.Ytbjjmilbilapnaa.Evs Go.Proofs.Ytbjjmilbilapnaa.Giv Go.Proofs.Ytbjjmilbilapnaa.Opn Go.Proofs.Ytbjjmilbilapnaa.PNm Go.Proofs.Ytbjjmilbilapnaa.PureNm

theorem ints_loop (l : List Int) (hl : l.length ≤ 4611686018427387904) : ∀ d i : Nat, l.length - i = d → i ≤ l.length → Ev (fun k => parterreref01_Ints.l0 k l l (i : Int)) true := by
  intro d
  induction d with
  | zero =>
    intro i hd hi
    refine ev_step ?_
    simp only [parterreref01_Ints.l0]
    exact ev_neg (by omega) ev_some
  | succ d ih =>
    intro i hd hi
    refine ev_step ?_
    simp only [parterreref01_Ints.l0]
    refine ev_pos (by omega) (ev_pos (by omega) (ev_pos (by omega) (ev_pos trivial ?_)))
    rw [w64 (by omega) (by omega)]
    exact ih (i + 1) (by omega) (by omega)
theorem ints_same (l : List Int) (hl : l.length ≤ 4611686018427387904) : Ev (fun k => parterreref01_Ints.f k l l) true := by
  unfold parterreref01_Ints.f
  refine ev_pos rfl ?_
  have := ints_loop l hl _ 0 rfl (Nat.zero_le _)
  exact this

theorem NamesFinds : parterrelaw16_NamesFinds.Pure := by
  intro t s n e hg hs hn
  have h1 := hg.1
  refine Ev.rounds ?_
  unfold parterrelaw16_NamesFinds.f
  obtain ⟨b, hb, hl⟩ := light_ev t (by omega)
  refine ev_bind hb (ev_ite (fun h => ?_) (fun h => ev_bind_some lives_ev))
  have hl := hl h
  have h6 := hl.1
  have hsz : s.size ≤ 140737488351232 := hs
  have hlen := hits_length t s t.length
  refine ev_bind (edge_ev t s e (small_of hl hg) (by omega) (by omega)) ?_
  refine ev_bind (refedge_ev t s e hl (by omega)) ?_
  refine ev_bindc (find_some (small_of hl hg) (by omega)) ?_
  refine ev_bind (reffind_ev t s hl) ?_
  refine ev_bind (ints_same _ (by omega)) (ev_pos rfl ?_)
  refine ev_bind (nth_ev t s n (small_of hl hg) (by omega) (by omega)) ?_
  refine ev_bind (refnth_ev t s n hl) (ev_pos rfl (ev_pos rfl (ev_pos (by simp) ?_)))
  exact ev_bind_some lives_ev
end Go.Proofs.Ytbjjmilbilapnaa.Pure
