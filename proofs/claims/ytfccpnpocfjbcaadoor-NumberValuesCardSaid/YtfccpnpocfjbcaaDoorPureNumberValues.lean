/- NumberValues, as a statement on bytes. Conditions: none beyond the arguments' own kinds. -/
import Derived.Test.YtfccpnpocfjbcaaDoorPNux15
import Derived.Test.YtfccpnpocfjbcaaDoorPureNw
set_option linter.unusedVariables false
set_option linter.unusedSimpArgs false
namespace Go.Proofs.YtfccpnpocfjbcaaDoor.Pure
open Go.RowKit Go.Proofs.YtfccpnpocfjbcaaDoorW.PrintWords Go.Proofs.YtfccpnpocfjbcaaDoorW.PrintMore Go.Proofs.YtfccpnpocfjbcaaDoor.Evs Go.Proofs.YtfccpnpocfjbcaaDoor.Opn Go.Proofs.YtfccpnpocfjbcaaDoor.PNu Go.Proofs.YtfccpnpocfjbcaaDoor.PureNu Go.Proofs.YtfccpnpocfjbcaaDoor.PureNw
theorem NumberValues : parterrelaw02_NumberValues.Pure := by
  intro s sc hs hsc
  refine Ev.rounds ?_
  unfold parterrelaw02_NumberValues.f
  refine ev_ite (fun h => ev_bind_some lives_ev) (fun h => ?_)
  exact ev_bind (nVal s (by omega) sc) (ev_bind (rVal s (by omega) sc) (ev_pos rfl (ev_pos rfl (ev_bind_some lives_ev))))
end Go.Proofs.YtfccpnpocfjbcaaDoor.Pure
