/- IdentWrites, as a statement on bytes. Conditions: none beyond the argument's own kind. -/
import Derived.Test.YtdjfdhnmbimkoaaPIdx15
import Derived.Test.YtdjfdhnmbimkoaaPureId
set_option linter.unusedVariables false
set_option linter.unusedSimpArgs false
namespace Go.Proofs.Ytdjfdhnmbimkoaa.Pure
open Go.RowKit Go.Proofs.YtdjfdhnmbimkoaaW.PrintWords Go.Proofs.YtdjfdhnmbimkoaaW.PrintMore Go.Proofs.Ytdjfdhnmbimkoaa.Evs Go.Proofs.Ytdjfdhnmbimkoaa.Opn Go.Proofs.Ytdjfdhnmbimkoaa.PId Go.Proofs.Ytdjfdhnmbimkoaa.PureId
theorem IdentWrites : parterrelaw04_IdentWrites.Pure := by
  intro s hs
  refine Ev.rounds ?_
  unfold parterrelaw04_IdentWrites.f
  refine ev_ite (fun h => ev_bindc lives ev_some) (fun h => ?_)
  obtain ⟨r, h1, h2⟩ := write_f s (by omega)
  obtain ⟨q, h3, h4⟩ := quote_f s (by omega)
  exact ev_bindc h1 (ev_bind h2 (ev_pos rfl (ev_bindc h3 (ev_bind h4 (ev_pos rfl (ev_bindc lives ev_some))))))
end Go.Proofs.Ytdjfdhnmbimkoaa.Pure
