/- Names of lines, as plain lists, continued: what Find, Edge and Nth answer, in the program and in the document's words. Conditions: small tables. -/
import Derived.Test.YtaalmkkekbhpnaaPRax7
import Derived.Test.YtaalmkkekbhpnaaPureRsNm
set_option linter.unusedVariables false
set_option linter.unusedSimpArgs false
namespace Go.Proofs.Ytaalmkkekbhpnaa.PureRsNm
open Go.RowKit Go.Proofs.YtaalmkkekbhpnaaW.PrintWords Go.Proofs.YtaalmkkekbhpnaaW.PrintMore Go.Proofs.Ytaalmkkekbhpnaa.Evs Go.Proofs.Ytaalmkkekbhpnaa.Giv Go.Proofs.Ytaalmkkekbhpnaa.Opn Go.Proofs.Ytaalmkkekbhpnaa.PRa

/-- The first line of a name. -/
def firstV (l : List Int) : Int × Bool := if l.length = 0 then (0, false) else (l.getD 0 0, true)
def edgeName (s : ByteArray) (e : Bool) : ByteArray := if e = true then s ++ (⟨#[45, 101, 110, 100]⟩ : ByteArray) else s ++ (⟨#[45, 115, 116, 97, 114, 116]⟩ : ByteArray)
def edgeV (t : List (List ByteArray)) (s : ByteArray) (e : Bool) : Int × Bool := firstV (hitsK t (edgeName s e) t.length)
theorem edgeName_size (s : ByteArray) (e : Bool) : (edgeName s e).size ≤ s.size + 6 := by
  unfold edgeName
  have h1 : (⟨#[45, 101, 110, 100]⟩ : ByteArray).size = 4 := rfl
  have h2 : (⟨#[45, 115, 116, 97, 114, 116]⟩ : ByteArray).size = 6 := rfl
  split <;> rw [ByteArray.size_append] <;> omega

theorem edge_ev (t : List (List ByteArray)) (s : ByteArray) (e : Bool) (ht : Small t) (hl : t.length ≤ 100000) (hs : s.size ≤ 9223372036854775801) : Ev (fun k => names_Edge.f k t s e) (edgeV t s e) := by
  have hj : Ev (fun k => names_Edge.j0 k t (edgeName s e)) (edgeV t s e) := by
    refine ev_step ?_
    simp only [names_Edge.j0]
    have := edgeName_size s e
    refine ev_bindc (find_some ht (by omega)) ?_
    refine ev_step ?_
    simp only [names_Edge.l0]
    unfold edgeV firstV
    refine ev_ite (fun h => ev_pos (by omega) (ev_pos (by omega) (ev_eq ?_))) (fun h => ev_eq ?_)
    · rw [if_neg (by omega)]
      rfl
    · rw [if_pos (by omega)]
  unfold names_Edge.f
  unfold edgeName at hj
  refine ev_ite (fun h => ev_pos (by omega) ?_) (fun h => ev_pos (by omega) ?_)
  · rw [if_pos h] at hj
    exact hj
  · rw [if_neg h] at hj
    exact hj
theorem nth_along_up (t : List (List ByteArray)) (s : ByteArray) (n : Int) (h0 : n > 0) (h1 : ¬ (n = 0 ∨ t.length = 0 ∨ n > 10000 ∨ n < -10000)) : alongV t s (-1) n = nthV t s n := by
  unfold alongV nthV
  rw [if_neg (by omega), if_neg h1, if_pos h0, if_pos h0]
  have : after t s (-1) = hitsK t s t.length := by
    unfold after
    rw [List.filter_eq_self]
    intro x hx
    have := hits_bd hx
    simp
    omega
  rw [this, show max (-1) ((t.length : Int) - 1) = (t.length : Int) - 1 by omega]
theorem nth_along_down (t : List (List ByteArray)) (s : ByteArray) (n : Int) (ht : Light t) (h0 : ¬ n > 0) (h1 : ¬ (n = 0 ∨ t.length = 0 ∨ n > 10000 ∨ n < -10000)) : alongV t s (t.length : Int) n = nthV t s n := by
  have h6 := ht.1
  unfold alongV nthV
  rw [if_neg (by omega), if_neg h1, if_neg h0, if_neg h0]
  have : ahead t s (t.length : Int) = (hitsK t s t.length).reverse := by
    unfold ahead
    rw [List.filter_eq_self]
    intro x hx
    have := hits_bd (List.mem_reverse.1 hx)
    simp
    omega
  rw [this, show min (t.length : Int) 0 = 0 by omega]
end Go.Proofs.Ytaalmkkekbhpnaa.PureRsNm

