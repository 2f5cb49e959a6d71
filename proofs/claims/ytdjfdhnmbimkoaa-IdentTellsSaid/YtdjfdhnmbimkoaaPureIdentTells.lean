/- IdentTells, as a statement on bytes. Conditions: none beyond the arguments' own kinds. -/
import Derived.Test.YtdjfdhnmbimkoaaPIdx16
import Derived.Test.YtdjfdhnmbimkoaaPIdx17
import Derived.Test.YtdjfdhnmbimkoaaPIdx18
import Derived.Test.YtdjfdhnmbimkoaaPIdx19
import Derived.Test.YtdjfdhnmbimkoaaPIdx20
import Derived.Test.YtdjfdhnmbimkoaaPIdx21
import Derived.Test.YtdjfdhnmbimkoaaPureId
set_option linter.unusedVariables false
set_option linter.unusedSimpArgs false
namespace Go.Proofs.Ytdjfdhnmbimkoaa.PureIdT
open Go.RowKit Go.Proofs.YtdjfdhnmbimkoaaW.PrintWords Go.Proofs.YtdjfdhnmbimkoaaW.PrintMore Go.Proofs.Ytdjfdhnmbimkoaa.Evs Go.Proofs.Ytdjfdhnmbimkoaa.Opn Go.Proofs.Ytdjfdhnmbimkoaa.PId Go.Proofs.Ytdjfdhnmbimkoaa.PureId
def lowN (s : ByteArray) (n : Nat) : List Int := (List.range n).map fun j => ident_Lower.low (bt s (j : Nat))
def L (s : ByteArray) : ByteArray := strOfNums (lowN s s.size)
theorem lower_f (s : ByteArray) (hs : s.size ≤ 1000000) : ident_Lower.f s = some (L s) := if_pos (by omega)
theorem strOfNums_app (a b : List Int) : strOfNums (a ++ b) = strOfNums a ++ strOfNums b := by
  apply ByteArray.ext
  simp [strOfNums]
theorem strOfNums_size (a : List Int) : (strOfNums a).size = a.length := by
  show (strOfNums a).data.size = _
  simp [strOfNums]
theorem lowN_succ (s : ByteArray) (n : Nat) : lowN s (n + 1) = lowN s n ++ [ident_Lower.low (bt s (n : Nat))] := by
  simp [lowN, List.range_succ]
theorem lowN_size (s : ByteArray) (n : Nat) : (lowN s n).length = n := by simp [lowN]
theorem lower_loop (s : ByteArray) (hs : s.size ≤ 1000000) : ∀ d i : Nat, s.size - i = d → i ≤ s.size → Ev (fun k => parterreref04_Lower.l0 k s (strOfNums (lowN s i)) (i : Int)) (L s) := by
  intro d
  induction d with
  | zero =>
    intro i hd hi
    obtain rfl : i = s.size := by omega
    refine ev_step ?_
    simp only [parterreref04_Lower.l0]
    exact ev_neg (by omega) ev_some
  | succ d ih =>
    intro i hd hi
    have hlt : i < s.size := by omega
    have k0 := ih (i + 1) (by omega) (by omega)
    rw [lowN_succ, strOfNums_app] at k0
    have hz := strOfNums_size (lowN s i)
    rw [lowN_size] at hz
    have hw := wr s i hs hlt
    have one : ∀ c : Int, (strOfNums [c]).size = 1 := fun c => strOfNums_size [c]
    refine ev_step ?_
    simp only [parterreref04_Lower.l0, hw]
    unfold ident_Lower.low at k0
    refine ev_pos (by omega) (ev_pos (by omega) (ev_ite (fun p1 => ?_) (fun p1 => ?_)))
    · rw [if_pos p1] at k0
      refine ev_ite (fun p2 => ?_) (fun p2 => ?_)
      · rw [if_pos p2] at k0
        have e : (bt s (i : Int) - 65) % 256 + 97 = bt s (i : Int) + 32 := by omega
        have e2 : (bt s (i : Int) + 32) % 256 = bt s (i : Int) + 32 := by omega
        refine ev_let (ev_pos ?_ ?_)
        · rw [one]; omega
        · rw [e, e2]; exact k0
      · rw [if_neg p2] at k0
        refine ev_let (ev_pos ?_ k0)
        rw [one]; omega
    · rw [if_neg p1] at k0
      refine ev_let (ev_pos ?_ k0)
      rw [one]; omega
theorem lower_ev (s : ByteArray) (hs : s.size ≤ 1000000) : Ev (fun k => parterreref04_Lower.f k s) (L s) := by
  unfold parterreref04_Lower.f
  exact lower_loop s hs s.size 0 rfl (Nat.zero_le _)
theorem is_f (a b : ByteArray) (ha : a.size ≤ 1000000) (hb : b.size ≤ 1000000) : ident_Is.f a b = some ((L a).toList == (L b).toList) := by
  unfold ident_Is.f
  rw [lower_f a ha, lower_f b hb]
  rfl
theorem is_ev (a b : ByteArray) (ha : a.size ≤ 1000000) (hb : b.size ≤ 1000000) : Ev (fun k => parterreref04_Is.f k a b) ((L a).toList == (L b).toList) := by
  unfold parterreref04_Is.f
  exact ev_bind (lower_ev a ha) (ev_bind (lower_ev b hb) ev_some)
theorem custom_loop (s : ByteArray) (l : List ByteArray) (hs : s.size ≤ 1000000) (hl : l.length ≤ 100) (hx : ∀ x ∈ l, x.size ≤ 1000000) : ∀ d i : Nat, l.length - i = d → i ≤ l.length →
    Ev (fun k => parterreref04_Custom.l0 k s l (i : Int)) (if (l.drop i).any (fun x => (L s).toList == (L x).toList) = true then false else isName s) := by
  intro d
  induction d with
  | zero =>
    intro i hd hi
    refine ev_step ?_
    simp only [parterreref04_Custom.l0]
    rw [List.drop_eq_nil_of_le (by omega)]
    refine ev_neg (by omega) (ev_cast (ev_bind_some (name_ev s (by omega))) ?_)
    simp
  | succ d ih =>
    intro i hd hi
    have hlt : i < l.length := by omega
    have hr : rdOf ByteArray.empty l (i : Int) = l[i] := by
      simp [rdOf, List.getD_eq_getElem?_getD, List.getElem?_eq_getElem hlt]
    refine ev_step ?_
    simp only [parterreref04_Custom.l0, hr]
    rw [List.drop_eq_getElem_cons hlt, List.any_cons]
    refine ev_pos (by omega) (ev_pos (by omega) (ev_bind (is_ev s l[i] hs (hx _ (List.getElem_mem hlt))) (ev_ite (fun p => ?_) (fun p => ?_))))
    · rw [p, Bool.true_or, if_pos rfl]
      exact ev_some
    · rw [Bool.eq_false_iff.2 p, Bool.false_or, w64 (by omega) (by omega)]
      exact ih (i + 1) (by omega) (by omega)
def kws : List ByteArray := [(⟨#[115, 112, 97, 110]⟩ : ByteArray), (⟨#[97, 117, 116, 111]⟩ : ByteArray), (⟨#[105, 110, 105, 116, 105, 97, 108]⟩ : ByteArray), (⟨#[105, 110, 104, 101, 114, 105, 116]⟩ : ByteArray), (⟨#[117, 110, 115, 101, 116]⟩ : ByteArray), (⟨#[100, 101, 102, 97, 117, 108, 116]⟩ : ByteArray), (⟨#[114, 101, 118, 101, 114, 116]⟩ : ByteArray)]
theorem kws_low : kws.map (fun x => (L x).data.toList) = [[115, 112, 97, 110], [97, 117, 116, 111], [105, 110, 105, 116, 105, 97, 108], [105, 110, 104, 101, 114, 105, 116], [117, 110, 115, 101, 116], [100, 101, 102, 97, 117, 108, 116], [114, 101, 118, 101, 114, 116]] := by decide +kernel
def custom (s : ByteArray) : Bool := if kws.any (fun x => (L s).toList == (L x).toList) = true then false else isName s
theorem custom_ev (s : ByteArray) (hs : s.size ≤ 1000000) : Ev (fun k => parterreref04_Custom.f k s) (custom s) := by
  unfold parterreref04_Custom.f
  exact custom_loop s kws hs (by decide) (by decide) kws.length 0 rfl (Nat.zero_le _)
theorem custom_f (s : ByteArray) (hs : s.size ≤ 1000000) : ident_Custom.f s = some (custom s) := by
  have e : kws.any (fun x => (L s).toList == (L x).toList) = (kws.map (fun x => (L x).data.toList)).any (fun x => (L s).toList == x) := by
    rw [List.any_map]
    congr 1
    funext x
    simp only [Function.comp, ByteArray.toList_eq]
  unfold ident_Custom.f custom
  rw [lower_f s hs, e, kws_low, name_f]
  simp only [Option.bind_some, List.any_cons, List.any_nil]
  generalize (L s).toList = x
  repeat' first
    | rfl
    | (split <;> rename_i h1 <;> first | (subst h1; rfl) | skip)
  simp_all
end Go.Proofs.Ytdjfdhnmbimkoaa.PureIdT
namespace Go.Proofs.Ytdjfdhnmbimkoaa.Pure
open Go.RowKit Go.Proofs.YtdjfdhnmbimkoaaW.PrintWords Go.Proofs.YtdjfdhnmbimkoaaW.PrintMore Go.Proofs.Ytdjfdhnmbimkoaa.Evs Go.Proofs.Ytdjfdhnmbimkoaa.Opn Go.Proofs.Ytdjfdhnmbimkoaa.PId Go.Proofs.Ytdjfdhnmbimkoaa.PureId Go.Proofs.Ytdjfdhnmbimkoaa.PureIdT
theorem tells_ev (s q : ByteArray) (hs : s.size ≤ 1000000) (hq : q.size ≤ 1000000) : Ev (fun k => parterrelaw04_IdentTells.j0 k s q false) true := by
  refine ev_step ?_
  simp only [parterrelaw04_IdentTells.j0]
  refine ev_neg (by decide) (ev_bindc (lower_f s hs) (ev_bind (lower_ev s hs) (ev_pos rfl (ev_bindc (is_f s q hs hq) (ev_bind (is_ev s q hs hq) (ev_pos (by simp) ?_))))))
  refine ev_bindc (name_f s) (ev_bind (name_ev s (by omega)) (ev_pos (by simp) ?_))
  exact ev_bindc (custom_f s hs) (ev_bind (custom_ev s hs) (ev_pos (by simp) (ev_bindc lives ev_some)))
theorem lives_ev (s q : ByteArray) : Ev (fun k => parterrelaw04_IdentTells.j0 k s q true) true := by
  refine ev_step ?_
  simp only [parterrelaw04_IdentTells.j0]
  exact ev_pos trivial (ev_bindc lives ev_some)
theorem IdentTells : parterrelaw04_IdentTells.Pure := by
  intro s q hs hq
  refine Ev.rounds ?_
  unfold parterrelaw04_IdentTells.f
  refine ev_ite (fun h => lives_ev s q) (fun h => ?_)
  by_cases h2 : (q.size : Int) > 300
  · rw [decide_eq_true h2]
    exact lives_ev s q
  · rw [decide_eq_false h2]
    exact tells_ev s q (by omega) (by omega)
end Go.Proofs.Ytdjfdhnmbimkoaa.Pure
