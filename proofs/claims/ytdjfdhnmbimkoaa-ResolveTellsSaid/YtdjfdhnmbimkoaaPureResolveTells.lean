/- ResolveTells, as a statement on numbers. Conditions: none beyond the arguments' own kinds. -/
import Derived.Test.YtdjfdhnmbimkoaaPRsx21
import Derived.Test.YtdjfdhnmbimkoaaPureRs
set_option linter.unusedVariables false
set_option linter.unusedSimpArgs false
namespace Go.Proofs.Ytdjfdhnmbimkoaa.Pure
open Go.RowKit Go.Proofs.YtdjfdhnmbimkoaaW.PrintWords Go.Proofs.YtdjfdhnmbimkoaaW.PrintMore Go.Proofs.Ytdjfdhnmbimkoaa.Evs Go.Proofs.Ytdjfdhnmbimkoaa.Opn Go.Proofs.Ytdjfdhnmbimkoaa.PRs Go.Proofs.Ytdjfdhnmbimkoaa.PureRs
theorem ResolveTells : parterrelaw18_ResolveTells.Pure := by
  intro a b c d x y h hx hy
  refine Ev.rounds ?_
  obtain ⟨r, h1, h2⟩ := good_same a b c d
  unfold parterrelaw18_ResolveTells.f
  exact ev_bindc (clamp_f _ _) (ev_bindc (refclamp_f _ _) (ev_bindc h1 (ev_bindc h2 (ev_pos (by simp) (ev_pos rfl (ev_pos rfl (ev_bindc (good_pair _ _) (ev_pos rfl (ev_bind_some lives_ev)))))))))
end Go.Proofs.Ytdjfdhnmbimkoaa.Pure
