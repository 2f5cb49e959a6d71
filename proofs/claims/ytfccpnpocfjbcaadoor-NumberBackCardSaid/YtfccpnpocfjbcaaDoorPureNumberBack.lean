/- NumberBack, as a statement on numbers. Conditions: none beyond the arguments' own kinds. -/
import Derived.Test.YtfccpnpocfjbcaaDoorPNtx12
import Derived.Test.YtfccpnpocfjbcaaDoorPureSt
set_option linter.unusedVariables false
set_option linter.unusedSimpArgs false
namespace Go.Proofs.YtfccpnpocfjbcaaDoor.Pure
open Go.RowKit Go.Proofs.YtfccpnpocfjbcaaDoorW.PrintWords Go.Proofs.YtfccpnpocfjbcaaDoorW.PrintMore Go.Proofs.YtfccpnpocfjbcaaDoor.Evs Go.Proofs.YtfccpnpocfjbcaaDoor.Opn Go.Proofs.YtfccpnpocfjbcaaDoor.PNt Go.Proofs.YtfccpnpocfjbcaaDoor.PureTu Go.Proofs.YtfccpnpocfjbcaaDoor.PureTw Go.Proofs.YtfccpnpocfjbcaaDoor.PureSt
theorem back_one {sc : Int} (hs : PureTx.IsScale sc) (n : Int) : Ev (fun k => (number_Text.f k n sc).bind fun t => ((fixed_Is.f n).bind fun t1 => (if t1 = true then ((number_Value.f k t sc).bind fun bt1 => (if bt1.2 = 0 then (if bt1.1 = n then ((number_Scan.f t).bind fun t2 => (if t2 = (t.size : Int) then ((parterrelaw02_lives.f k).bind fun t3 => (some t3)) else (some false))) else (some false)) else (some false))) else (if t.toList = ([] : List UInt8) then ((parterrelaw02_lives.f k).bind fun t3 => (some t3)) else (some false))))) true := by
  refine ev_bind (PureTx.nText n sc) (ev_bindc (PureTx.is_f n) (ev_ite (fun h => ?_) (fun h => ?_)))
  · have hn := of_decide_eq_true h
    have e : PureTx.Txt n sc = PureTx.txt sc n := by
      unfold PureTx.Txt
      rw [if_pos ⟨hn, hs⟩]
    rw [e]
    obtain ⟨h1, h2, h3, h4⟩ := txt_back hs hn
    have hv := nVal (PureTx.txt sc n) (by omega) sc
    rw [h1] at hv
    refine ev_bind hv (ev_pos rfl (ev_pos rfl (ev_bindc (scan_f _ (by omega)) (ev_pos ?_ (ev_bind_some PureTx.lives_ev)))))
    rw [if_neg (by rw [h2]; decide), h3]
  · have e : PureTx.Txt n sc = ⟨#[]⟩ := by
      unfold PureTx.Txt
      rw [if_neg (fun k => h (decide_eq_true k.1))]
    rw [e]
    exact ev_pos (by rw [ByteArray.toList_eq]) (ev_bind_some PureTx.lives_ev)
theorem NumberBack : parterrelaw02_NumberBack.Pure := by
  intro n a hn ha
  refine Ev.rounds ?_
  unfold parterrelaw02_NumberBack.f
  refine ev_ite (fun h => back_one (Or.inl rfl) n) (fun h => ev_ite (fun h1 => back_one (Or.inr (Or.inl rfl)) n) (fun h1 => ev_ite (fun h2 => back_one (Or.inr (Or.inr rfl)) n) (fun h2 => ?_)))
  rcases three a with k | k | k
  · exact absurd k h
  · exact absurd k h1
  · exact absurd k h2
end Go.Proofs.YtfccpnpocfjbcaaDoor.Pure
