/- NamesAlong, as a statement on lists and numbers. Conditions: none beyond the arguments' own kinds. -/
import Derived.Test.YtbjjmilbilapnaaPNmx6
import Derived.Test.YtbjjmilbilapnaaPureNm
set_option linter.unusedVariables false
namespace Go.Proofs.Ytbjjmilbilapnaa.Pure
open Go.RowKit Go.Proofs.YtbjjmilbilapnaaW.PrintWords Go.Proofs.YtbjjmilbilapnaaW.PrintMore Go.Proofs.Ytbjjmilbilapnaa.Evs Go.Proofs.Ytbjjmilbilapnaa.Giv Go.Proofs.Ytbjjmilbilapnaa.Opn Go.Proofs.Ytbjjmilbilapnaa.PNm Go.Proofs.Ytbjjmilbilapnaa.PureNm

theorem NamesAlong : parterrelaw16_NamesAlong.Pure := by
  intro t s f n hg hs hf hn
  have h1 := hg.1
  refine Ev.rounds ?_
  unfold parterrelaw16_NamesAlong.f
  obtain ⟨b, hb, hl⟩ := light_ev t (by omega)
  refine ev_bind hb (ev_ite (fun h => ?_) (fun h => ev_bind_some lives_ev))
  have hl := hl h
  have h6 := hl.1
  have hsz : s.size ≤ 9223372036854775807 := by unfold gStr at hs; omega
  refine ev_bind (along_ev t s f n (small_of hl hg) (by omega) hsz) ?_
  refine ev_bind (refalong_ev t s f n hl) ?_
  exact ev_pos rfl (ev_bind_some lives_ev)
end Go.Proofs.Ytbjjmilbilapnaa.Pure
