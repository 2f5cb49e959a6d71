/- Names (layer 4): what ident's Name, Lower and Custom answer, in the program and in the document's words. Conditions: texts that can be read. -/
import Derived.Test.YtdjfdhnmbimkoaaPRsx3
import Derived.Test.YtdjfdhnmbimkoaaPRsx4
import Derived.Test.YtdjfdhnmbimkoaaPRsx13
import Derived.Test.YtdjfdhnmbimkoaaPRsx14
import Derived.Test.YtdjfdhnmbimkoaaEv
import Derived.Lib.IndexLaws
set_option linter.unusedVariables false
set_option linter.unusedSimpArgs false
namespace Go.Proofs.Ytdjfdhnmbimkoaa.PureRsCu
open Go.RowKit Go.Proofs.YtdjfdhnmbimkoaaW.PrintWords Go.Proofs.YtdjfdhnmbimkoaaW.PrintMore Go.Proofs.Ytdjfdhnmbimkoaa.Evs Go.Proofs.Ytdjfdhnmbimkoaa.Opn Go.Proofs.Ytdjfdhnmbimkoaa.PRs
/-! ### A nought -/
theorem bt_get (s : ByteArray) (i : Nat) (h : i < s.size) : bt s (i : Int) = ((s.data.toList[i]'(by rw [data_length]; exact h)).toNat : Int) := by
  rw [← bt_at s (i : Int) (by simpa using h)]
  simp
  rfl
theorem bt_zero (s : ByteArray) (i : Nat) (h : i < s.size) : bt s (i : Int) = 0 ↔ s.data.toList[i]? = some 0 := by
  have h' : i < s.data.toList.length := by rw [data_length]; exact h
  rw [bt_get s i h, List.getElem?_eq_getElem h', Option.some_inj]
  constructor
  · intro e
    apply UInt8.toNat_inj.1
    simpa using e
  · intro e
    rw [e]
    rfl
def has0 (s : ByteArray) : Bool := decide (0 ≤ Lib.indexByte s.data.toList 0)
theorem has0_true {s : ByteArray} {i : Nat} (h : i < s.size) (hb : bt s (i : Int) = 0) : has0 s = true := by
  unfold has0
  apply decide_eq_true
  by_cases h0 : Lib.indexByte s.data.toList 0 = -1
  · exact absurd ((bt_zero s i h).1 hb) (Lib.indexByte_none h0 i)
  · have := Lib.indexByte_ge s.data.toList 0
    omega
theorem has0_false {s : ByteArray} (h : ∀ i, i < s.size → bt s (i : Int) ≠ 0) : has0 s = false := by
  unfold has0
  apply decide_eq_false
  intro h0
  obtain ⟨o, ho⟩ := Int.eq_ofNat_of_zero_le h0
  obtain ⟨h1, _⟩ := Lib.indexByte_some ho
  have h2 := (List.getElem?_eq_some_iff.1 h1).1
  rw [data_length] at h2
  exact h o h2 ((bt_zero s o h2).2 h1)
theorem nought_ev (s : ByteArray) (hs : s.size ≤ 140737488351232) : ∀ d i : Nat, s.size - i = d → i ≤ s.size → (∀ j, j < i → bt s (j : Int) ≠ 0) → Ev (fun k => parterreref04_nought.l0 k s (i : Int)) (has0 s) := by
  intro d
  induction d with
  | zero =>
    intro i hd hi hj
    refine ev_step ?_
    simp only [parterreref04_nought.l0]
    rw [has0_false (fun j h => hj j (by omega))]
    exact ev_neg (by omega) ev_some
  | succ d ih =>
    intro i hd hi hj
    refine ev_step ?_
    simp only [parterreref04_nought.l0]
    refine ev_pos (by omega) (ev_pos (by omega) (ev_ite (fun h => ?_) (fun h => ?_)))
    · rw [has0_true (by omega) h]
      exact ev_some
    · rw [w64 (by omega) (by omega)]
      refine ih (i + 1) (by omega) (by omega) (fun j hj' => ?_)
      rcases Nat.lt_or_ge j i with h1 | h1
      · exact hj j h1
      · obtain rfl : j = i := by omega
        exact h
theorem noughts (s : ByteArray) (hs : s.size ≤ 140737488351232) : Ev (fun k => parterreref04_nought.f k s) (has0 s) := nought_ev s hs _ 0 rfl (Nat.zero_le _) (fun j h => absurd h (Nat.not_lt_zero _))
theorem index0 (s : ByteArray) : strings_IndexByte.f s 0 = some (Lib.indexByte s.data.toList 0) := rfl
theorem has0_lt (s : ByteArray) : decide (Lib.indexByte s.data.toList 0 < 0) = !has0 s := by
  unfold has0
  rw [← decide_not]
  exact decide_eq_decide.2 (by omega)

/-! ### A name -/
def isName (s : ByteArray) : Bool := if s.toList = ([] : List UInt8) then false else if (s.size : Int) ≤ 64 then !has0 s else false
theorem name_f (s : ByteArray) : ident_Name.f s = some (isName s) := by
  unfold ident_Name.f isName
  split
  · rfl
  · split
    · rw [index0]
      show some (decide _) = _
      rw [has0_lt]
    · rfl
theorem name_ev (s : ByteArray) (hs : s.size ≤ 140737488351232) : Ev (fun k => parterreref04_Name.f k s) (isName s) := by
  unfold parterreref04_Name.f isName
  by_cases h : s.toList = ([] : List UInt8)
  · rw [if_pos h]
    exact ev_pos h ev_some
  · rw [if_neg h]
    refine ev_neg h ?_
    by_cases h2 : (s.size : Int) ≤ 64
    · rw [if_pos h2]
      exact ev_pos h2 (ev_bind (noughts s hs) ev_some)
    · rw [if_neg h2]
      exact ev_neg h2 ev_some

/-! ### Written -/
theorem wr (s : ByteArray) (i : Nat) (hs : s.size ≤ 140737488351232) (hi : i < s.size) : wrap64 ((i : Int) + 1) = ((i + 1 : Nat) : Int) := by
  rw [w64 (by omega) (by omega)]
  omega
def lowN (s : ByteArray) (n : Nat) : List Int := (List.range n).map fun j => ident_Lower.low (bt s (j : Nat))
def L (s : ByteArray) : ByteArray := strOfNums (lowN s s.size)
theorem lower_f (s : ByteArray) (hs : s.size ≤ 140737488351232) : ident_Lower.f s = some (L s) := if_pos (by omega)
theorem strOfNums_app (a b : List Int) : strOfNums (a ++ b) = strOfNums a ++ strOfNums b := by
  apply ByteArray.ext
  simp [strOfNums]
theorem strOfNums_size (a : List Int) : (strOfNums a).size = a.length := by
  show (strOfNums a).data.size = _
  simp [strOfNums]
theorem lowN_succ (s : ByteArray) (n : Nat) : lowN s (n + 1) = lowN s n ++ [ident_Lower.low (bt s (n : Nat))] := by
  simp [lowN, List.range_succ]
theorem lowN_size (s : ByteArray) (n : Nat) : (lowN s n).length = n := by simp [lowN]
theorem lower_loop (s : ByteArray) (hs : s.size ≤ 140737488351232) : ∀ d i : Nat, s.size - i = d → i ≤ s.size → Ev (fun k => parterreref04_Lower.l0 k s (strOfNums (lowN s i)) (i : Int)) (L s) := by
  intro d
  induction d with
  | zero =>
    intro i hd hi
    obtain rfl : i = s.size := by omega
    refine ev_step ?_
    simp only [parterreref04_Lower.l0]
    exact ev_neg (by omega) ev_some
  | succ d ih =>
    intro i hd hi
    have hlt : i < s.size := by omega
    have k0 := ih (i + 1) (by omega) (by omega)
    rw [lowN_succ, strOfNums_app] at k0
    have hz := strOfNums_size (lowN s i)
    rw [lowN_size] at hz
    have hw := wr s i hs hlt
    have one : ∀ c : Int, (strOfNums [c]).size = 1 := fun c => strOfNums_size [c]
    refine ev_step ?_
    simp only [parterreref04_Lower.l0, hw]
    unfold ident_Lower.low at k0
    refine ev_pos (by omega) (ev_pos (by omega) (ev_ite (fun p1 => ?_) (fun p1 => ?_)))
    · rw [if_pos p1] at k0
      refine ev_ite (fun p2 => ?_) (fun p2 => ?_)
      · rw [if_pos p2] at k0
        have e : (bt s (i : Int) - 65) % 256 + 97 = bt s (i : Int) + 32 := by omega
        have e2 : (bt s (i : Int) + 32) % 256 = bt s (i : Int) + 32 := by omega
        refine ev_let (ev_pos ?_ ?_)
        · rw [one]; omega
        · rw [e, e2]; exact k0
      · rw [if_neg p2] at k0
        refine ev_let (ev_pos ?_ k0)
        rw [one]; omega
    · rw [if_neg p1] at k0
      refine ev_let (ev_pos ?_ k0)
      rw [one]; omega
theorem lower_ev (s : ByteArray) (hs : s.size ≤ 140737488351232) : Ev (fun k => parterreref04_Lower.f k s) (L s) := by
  unfold parterreref04_Lower.f
  exact lower_loop s hs s.size 0 rfl (Nat.zero_le _)
theorem is_ev (a b : ByteArray) (ha : a.size ≤ 140737488351232) (hb : b.size ≤ 140737488351232) : Ev (fun k => parterreref04_Is.f k a b) ((L a).toList == (L b).toList) := by
  unfold parterreref04_Is.f
  exact ev_bind (lower_ev a ha) (ev_bind (lower_ev b hb) ev_some)
theorem custom_loop (s : ByteArray) (l : List ByteArray) (hs : s.size ≤ 140737488351232) (hl : l.length ≤ 100) (hx : ∀ x ∈ l, x.size ≤ 140737488351232) : ∀ d i : Nat, l.length - i = d → i ≤ l.length →
    Ev (fun k => parterreref04_Custom.l0 k s l (i : Int)) (if (l.drop i).any (fun x => (L s).toList == (L x).toList) = true then false else isName s) := by
  intro d
  induction d with
  | zero =>
    intro i hd hi
    refine ev_step ?_
    simp only [parterreref04_Custom.l0]
    rw [List.drop_eq_nil_of_le (by omega)]
    refine ev_neg (by omega) (ev_cast (ev_bind_some (name_ev s (by omega))) ?_)
    simp
  | succ d ih =>
    intro i hd hi
    have hlt : i < l.length := by omega
    have hr : rdOf ByteArray.empty l (i : Int) = l[i] := by
      simp [rdOf, List.getD_eq_getElem?_getD, List.getElem?_eq_getElem hlt]
    refine ev_step ?_
    simp only [parterreref04_Custom.l0, hr]
    rw [List.drop_eq_getElem_cons hlt, List.any_cons]
    refine ev_pos (by omega) (ev_pos (by omega) (ev_bind (is_ev s l[i] hs (hx _ (List.getElem_mem hlt))) (ev_ite (fun p => ?_) (fun p => ?_))))
    · rw [p, Bool.true_or, if_pos rfl]
      exact ev_some
    · rw [Bool.eq_false_iff.2 p, Bool.false_or, w64 (by omega) (by omega)]
      exact ih (i + 1) (by omega) (by omega)
def kws : List ByteArray := [(⟨#[115, 112, 97, 110]⟩ : ByteArray), (⟨#[97, 117, 116, 111]⟩ : ByteArray), (⟨#[105, 110, 105, 116, 105, 97, 108]⟩ : ByteArray), (⟨#[105, 110, 104, 101, 114, 105, 116]⟩ : ByteArray), (⟨#[117, 110, 115, 101, 116]⟩ : ByteArray), (⟨#[100, 101, 102, 97, 117, 108, 116]⟩ : ByteArray), (⟨#[114, 101, 118, 101, 114, 116]⟩ : ByteArray)]
theorem kws_low : kws.map (fun x => (L x).data.toList) = [[115, 112, 97, 110], [97, 117, 116, 111], [105, 110, 105, 116, 105, 97, 108], [105, 110, 104, 101, 114, 105, 116], [117, 110, 115, 101, 116], [100, 101, 102, 97, 117, 108, 116], [114, 101, 118, 101, 114, 116]] := by decide +kernel
def custom (s : ByteArray) : Bool := if kws.any (fun x => (L s).toList == (L x).toList) = true then false else isName s
theorem custom_ev (s : ByteArray) (hs : s.size ≤ 140737488351232) : Ev (fun k => parterreref04_Custom.f k s) (custom s) := by
  unfold parterreref04_Custom.f
  exact custom_loop s kws hs (by decide) (by decide) kws.length 0 rfl (Nat.zero_le _)
theorem custom_f (s : ByteArray) (hs : s.size ≤ 140737488351232) : ident_Custom.f s = some (custom s) := by
  have e : kws.any (fun x => (L s).toList == (L x).toList) = (kws.map (fun x => (L x).data.toList)).any (fun x => (L s).toList == x) := by
    rw [List.any_map]
    congr 1
    funext x
    simp only [Function.comp, ByteArray.toList_eq]
  unfold ident_Custom.f custom
  rw [lower_f s hs, e, kws_low, name_f]
  simp only [Option.bind_some, List.any_cons, List.any_nil]
  generalize (L s).toList = x
  repeat' first
    | rfl
    | (split <;> rename_i h1 <;> first | (subst h1; rfl) | skip)
  simp_all
end Go.Proofs.Ytdjfdhnmbimkoaa.PureRsCu
