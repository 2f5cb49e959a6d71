/- NumberScans, as a statement on bytes. Conditions: none beyond the argument's own kind. -/
import Derived.Test.YtfccpnpocfjbcaaDoorPNux11
import Derived.Test.YtfccpnpocfjbcaaDoorPureNu
set_option linter.unusedVariables false
set_option linter.unusedSimpArgs false
namespace Go.Proofs.YtfccpnpocfjbcaaDoor.Pure
open Go.RowKit Go.Proofs.YtfccpnpocfjbcaaDoorW.PrintWords Go.Proofs.YtfccpnpocfjbcaaDoorW.PrintMore Go.Proofs.YtfccpnpocfjbcaaDoor.Evs Go.Proofs.YtfccpnpocfjbcaaDoor.Opn Go.Proofs.YtfccpnpocfjbcaaDoor.PNu Go.Proofs.YtfccpnpocfjbcaaDoor.PureNu
theorem NumberScans : parterrelaw02_NumberScans.Pure := by
  intro s hs
  refine Ev.rounds ?_
  unfold parterrelaw02_NumberScans.f
  refine ev_ite (fun h => ev_bind_some lives_ev) (fun h => ?_)
  exact ev_bindc (scan_f s (by omega)) (ev_bind (rscan_ev s (by omega)) (ev_pos rfl (ev_bind_some lives_ev)))
end Go.Proofs.YtfccpnpocfjbcaaDoor.Pure
