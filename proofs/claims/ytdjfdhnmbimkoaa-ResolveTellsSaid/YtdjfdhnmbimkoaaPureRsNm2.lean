/- Names of lines, as plain lists, continued: what Find, Edge and Nth answer, in the program and in the document's words. Conditions: small tables. -/
import Derived.Test.YtdjfdhnmbimkoaaPRsx7
import Derived.Test.YtdjfdhnmbimkoaaPRsx16
import Derived.Test.YtdjfdhnmbimkoaaPRsx18
import Derived.Test.YtdjfdhnmbimkoaaPureRsNm
set_option linter.unusedVariables false
set_option linter.unusedSimpArgs false
namespace Go.Proofs.Ytdjfdhnmbimkoaa.PureRsNm
open Go.RowKit Go.Proofs.YtdjfdhnmbimkoaaW.PrintWords Go.Proofs.YtdjfdhnmbimkoaaW.PrintMore Go.Proofs.Ytdjfdhnmbimkoaa.Evs Go.Proofs.Ytdjfdhnmbimkoaa.Giv Go.Proofs.Ytdjfdhnmbimkoaa.Opn Go.Proofs.Ytdjfdhnmbimkoaa.PRs

theorem reffind_loop (t : List (List ByteArray)) (s : ByteArray) (ht : Light t) : ∀ d i : Nat, t.length - i = d → i ≤ t.length →
    Ev (fun k => parterreref16_Find.l0 k t s (hitsK t s i) (i : Int)) (hitsK t s t.length) := by
  have h6 := ht.1
  intro d
  induction d with
  | zero =>
    intro i hd hi
    have : i = t.length := by omega
    subst this
    refine ev_step ?_
    simp only [parterreref16_Find.l0]
    exact ev_neg (by omega) ev_some
  | succ d ih =>
    intro i hd hi
    have hlt : i < t.length := by omega
    have hlen := hits_length t s i
    refine ev_step ?_
    simp only [parterreref16_Find.l0]
    refine ev_pos (by omega) (ev_pos (by omega) ?_)
    rw [rd_line, w64 (by omega) (by omega)]
    refine ev_bind (has_ev _ s (light_line ht hlt)) ?_
    have := ih (i + 1) (by omega) (by omega)
    rw [hitsK_succ] at this
    refine ev_ite (fun h => ev_pos (by omega) ?_) (fun h => ?_)
    · rw [if_pos h] at this
      exact this
    · rw [if_neg h, List.append_nil] at this
      exact this
theorem reffind_ev (t : List (List ByteArray)) (s : ByteArray) (ht : Light t) : Ev (fun k => parterreref16_Find.f k t s) (hitsK t s t.length) := by
  have := reffind_loop t s ht _ 0 rfl (Nat.zero_le _)
  exact this

/-- The first line of a name. -/
def firstV (l : List Int) : Int × Bool := if l.length = 0 then (0, false) else (l.getD 0 0, true)
def edgeName (s : ByteArray) (e : Bool) : ByteArray := if e = true then s ++ (⟨#[45, 101, 110, 100]⟩ : ByteArray) else s ++ (⟨#[45, 115, 116, 97, 114, 116]⟩ : ByteArray)
def edgeV (t : List (List ByteArray)) (s : ByteArray) (e : Bool) : Int × Bool := firstV (hitsK t (edgeName s e) t.length)
theorem edgeName_size (s : ByteArray) (e : Bool) : (edgeName s e).size ≤ s.size + 6 := by
  unfold edgeName
  have h1 : (⟨#[45, 101, 110, 100]⟩ : ByteArray).size = 4 := rfl
  have h2 : (⟨#[45, 115, 116, 97, 114, 116]⟩ : ByteArray).size = 6 := rfl
  split <;> rw [ByteArray.size_append] <;> omega

theorem edge_ev (t : List (List ByteArray)) (s : ByteArray) (e : Bool) (ht : Small t) (hl : t.length ≤ 100000) (hs : s.size ≤ 9223372036854775801) : Ev (fun k => names_Edge.f k t s e) (edgeV t s e) := by
  have hj : Ev (fun k => names_Edge.j0 k t (edgeName s e)) (edgeV t s e) := by
    refine ev_step ?_
    simp only [names_Edge.j0]
    have := edgeName_size s e
    refine ev_bindc (find_some ht (by omega)) ?_
    refine ev_step ?_
    simp only [names_Edge.l0]
    unfold edgeV firstV
    refine ev_ite (fun h => ev_pos (by omega) (ev_pos (by omega) (ev_eq ?_))) (fun h => ev_eq ?_)
    · rw [if_neg (by omega)]
      rfl
    · rw [if_pos (by omega)]
  unfold names_Edge.f
  unfold edgeName at hj
  refine ev_ite (fun h => ev_pos (by omega) ?_) (fun h => ev_pos (by omega) ?_)
  · rw [if_pos h] at hj
    exact hj
  · rw [if_neg h] at hj
    exact hj
theorem refedge_ev (t : List (List ByteArray)) (s : ByteArray) (e : Bool) (ht : Light t) (hs : s.size ≤ 9223372036854775801) : Ev (fun k => parterreref16_Edge.f k t s e) (edgeV t s e) := by
  have hv : ∀ l : List Int, Ev (fun k => if (l.length : Int) = 0 then (some ((0 : Int), false)) else (if 0 < (l.length : Int) then (some (rd l 0, true)) else (none))) (firstV l) := by
    intro l
    unfold firstV
    refine ev_ite (fun h => ev_eq ?_) (fun h => ev_pos (by omega) (ev_eq ?_))
    · rw [if_pos (by omega)]
    · rw [if_neg (by omega)]
      rfl
  unfold parterreref16_Edge.f edgeV edgeName
  refine ev_pos (by omega) (ev_ite (fun h => ev_pos (by omega) ?_) (fun h => ?_))
  · rw [if_pos h]
    exact ev_bind (reffind_ev t _ ht) (hv _)
  · rw [if_neg h]
    exact ev_bind (reffind_ev t _ ht) (hv _)

theorem nth_along_up (t : List (List ByteArray)) (s : ByteArray) (n : Int) (h0 : n > 0) (h1 : ¬ (n = 0 ∨ t.length = 0 ∨ n > 10000 ∨ n < -10000)) : alongV t s (-1) n = nthV t s n := by
  unfold alongV nthV
  rw [if_neg (by omega), if_neg h1, if_pos h0, if_pos h0]
  have : after t s (-1) = hitsK t s t.length := by
    unfold after
    rw [List.filter_eq_self]
    intro x hx
    have := hits_bd hx
    simp
    omega
  rw [this, show max (-1) ((t.length : Int) - 1) = (t.length : Int) - 1 by omega]
theorem nth_along_down (t : List (List ByteArray)) (s : ByteArray) (n : Int) (ht : Light t) (h0 : ¬ n > 0) (h1 : ¬ (n = 0 ∨ t.length = 0 ∨ n > 10000 ∨ n < -10000)) : alongV t s (t.length : Int) n = nthV t s n := by
  have h6 := ht.1
  unfold alongV nthV
  rw [if_neg (by omega), if_neg h1, if_neg h0, if_neg h0]
  have : ahead t s (t.length : Int) = (hitsK t s t.length).reverse := by
    unfold ahead
    rw [List.filter_eq_self]
    intro x hx
    have := hits_bd (List.mem_reverse.1 hx)
    simp
    omega
  rw [this, show min (t.length : Int) 0 = 0 by omega]
theorem refnth_ev (t : List (List ByteArray)) (s : ByteArray) (n : Int) (ht : Light t) : Ev (fun k => parterreref16_Nth.f k t s n) (nthV t s n) := by
  have hj : ∀ b : Bool, (b = true → nthV t s n = 0) → (b = false → ¬(n = 0 ∨ t.length = 0 ∨ n > 10000 ∨ n < -10000)) → Ev (fun k => parterreref16_Nth.j0 k t s n b) (nthV t s n) := by
    intro b h1 h2
    refine ev_step ?_
    simp only [parterreref16_Nth.j0]
    refine ev_ite (fun h => ev_eq (h1 h).symm) (fun h => ?_)
    have h2 := h2 (by simpa using h)
    refine ev_ite (fun h0 => ?_) (fun h0 => ?_)
    · rw [← nth_along_up t s n h0 h2]
      exact ev_bind_some (refalong_ev t s (-1) n ht)
    · rw [← nth_along_down t s n ht h0 h2]
      exact ev_bind_some (refalong_ev t s _ n ht)
  unfold parterreref16_Nth.f
  refine ev_ite (fun h => hj _ (fun _ => ?_) (by simp)) (fun h1 => ev_ite (fun h => hj _ (fun _ => ?_) (by simp)) (fun h2 => ev_ite (fun h => hj _ (fun _ => ?_) (by simp)) (fun h3 => hj _ (fun h => ?_) (fun h => ?_))))
  · exact if_pos (by omega)
  · exact if_pos (by omega)
  · exact if_pos (by omega)
  · have := of_decide_eq_true h
    exact if_pos (by omega)
  · have := of_decide_eq_false h
    omega
end Go.Proofs.Ytdjfdhnmbimkoaa.PureRsNm
