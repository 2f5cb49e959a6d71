/- What is written comes back (layer 4): one word, that means the name; what is quoted, one that means the text. Conditions: as the statement says. -/
import Derived.Test.YtfccpnpocfjbcaaPTkx17
import Derived.Test.YtfccpnpocfjbcaaPTkx18
import Derived.Test.YtfccpnpocfjbcaaPureLw
set_option linter.unusedVariables false
set_option linter.unusedSimpArgs false
namespace Go.Proofs.Ytfccpnpocfjbcaa.Pure
open Go.RowKit Go.Proofs.YtfccpnpocfjbcaaW.PrintWords Go.Proofs.YtfccpnpocfjbcaaW.PrintMore Go.Proofs.Ytfccpnpocfjbcaa.Evs Go.Proofs.Ytfccpnpocfjbcaa.Opn Go.Proofs.Ytfccpnpocfjbcaa.PTk Go.Proofs.Ytfccpnpocfjbcaa.Giv Go.Proofs.Ytfccpnpocfjbcaa.PureLx

theorem j0_false (s : ByteArray) (hs : s.size ≤ 2000) : Ev (fun k => parterrelaw04_IdentBack.j0 k s false) true := by
  refine ev_step ?_
  simp only [parterrelaw04_IdentBack.j0]
  refine ev_neg (by decide) ?_
  rcases quote_form s (by omega) with h | ⟨l, h0, hl, h⟩
  · refine ev_bindc h (ev_pos (by rw [ByteArray.toList_eq]) (ev_bindc ident_lives ev_some))
  · have hT : (PureLx.quoted l).size = l.length + 2 := quoted_size l
    have h8 := quote_len s hl
    refine ev_bindc h (ev_neg ?_ (ev_pos (by rw [hT]; omega) (ev_bind (quoted_tokens (by omega) h0 hl) (ev_pos rfl (ev_pos rfl (ev_pos (show (0 : Int) < ((2 : Nat) : Int) by decide) (ev_pos rfl (ev_pos rfl (ev_bindc ident_lives ev_some)))))))))
    rw [ByteArray.toList_eq, quoted_list]
    simp
theorem IdentBack : parterrelaw04_IdentBack.Pure := by
  intro s hs
  refine Ev.rounds ?_
  simp only [parterrelaw04_IdentBack.f]
  refine ev_ite (fun _ => ev_bindc ident_lives ev_some) (fun h => ?_)
  have hz : s.size ≤ 2000 := by omega
  rcases name_cases s with ⟨hn, h1, h64, h0⟩ | hn
  · obtain ⟨l, hl⟩ := write_cat s (by omega) s.size (Nat.le_refl _)
    have hlen := ident_Write.cat_len s _ _ hl
    have hw : ident_Write.f s = some ⟨l.toArray⟩ := by
      unfold ident_Write.f
      rw [hn, Option.bind_some, if_pos rfl, if_pos (by omega), hl]
      rfl
    have hT : (⟨l.toArray⟩ : ByteArray).size = l.length := mk_size l
    refine ev_bindc hw (ev_pos (by rw [hT]; omega) (ev_bind (written_tokens (by omega) h1 h64 h0 hl) (ev_bindc hn (ev_pos rfl (ev_pos rfl (ev_pos rfl (ev_pos (show (0 : Int) < ((2 : Nat) : Int) by decide) (ev_pos rfl ?_))))))))
    refine ev_cast' (b := false) ?_ (j0_false s hz)
    show (s.toList != s.toList) = false
    simp
  · have hw : ident_Write.f s = some ⟨#[]⟩ := by
      unfold ident_Write.f
      rw [hn]
      rfl
    have ht : Ev (fun k => token_Tokens.f k (bytesOf (⟨#[]⟩ : ByteArray))) ([] ++ [⟨8, ((⟨#[]⟩ : ByteArray).size : Int), ⟨#[]⟩, ⟨#[]⟩⟩], (0 : Int), (0 : Int)) := tokens_ev (i := 0) (by decide) sk_end (Nat.le_refl _) tk_end
    exact ev_bindc hw (ev_pos (by decide) (ev_bind ht (ev_bindc hn (ev_neg (by decide) (j0_false s hz)))))
end Go.Proofs.Ytfccpnpocfjbcaa.Pure
