/- NumberTexts, as a statement on numbers. Conditions: none beyond the arguments' own kinds. -/
import Derived.Test.YtfccpnpocfjbcaaDoorPNtx11
import Derived.Test.YtfccpnpocfjbcaaDoorPureTx
set_option linter.unusedVariables false
set_option linter.unusedSimpArgs false
namespace Go.Proofs.YtfccpnpocfjbcaaDoor.Pure
open Go.RowKit Go.Proofs.YtfccpnpocfjbcaaDoorW.PrintWords Go.Proofs.YtfccpnpocfjbcaaDoorW.PrintMore Go.Proofs.YtfccpnpocfjbcaaDoor.Evs Go.Proofs.YtfccpnpocfjbcaaDoor.Opn Go.Proofs.YtfccpnpocfjbcaaDoor.PNt Go.Proofs.YtfccpnpocfjbcaaDoor.PureTx
theorem NumberTexts : parterrelaw02_NumberTexts.Pure := by
  intro n sc hn hsc
  refine Ev.rounds ?_
  unfold parterrelaw02_NumberTexts.f
  exact ev_bind (nText n sc) (ev_bind (rText n sc) (ev_pos rfl (ev_bind_some lives_ev)))
end Go.Proofs.YtfccpnpocfjbcaaDoor.Pure
