/- Names (layer 4): what ident's Name, Lower and Custom answer, in the program and in the document's words. Conditions: texts that can be read. -/
import Derived.Test.YtaalmkkekbhpnaaPRax5
import Derived.Test.YtaalmkkekbhpnaaEv
import Derived.Lib.IndexLaws
set_option linter.unusedVariables false
set_option linter.unusedSimpArgs false
namespace Go.Proofs.Ytaalmkkekbhpnaa.PureRsCu
open Go.RowKit Go.Proofs.YtaalmkkekbhpnaaW.PrintWords Go.Proofs.YtaalmkkekbhpnaaW.PrintMore Go.Proofs.Ytaalmkkekbhpnaa.Evs Go.Proofs.Ytaalmkkekbhpnaa.Opn Go.Proofs.Ytaalmkkekbhpnaa.PRa
/-! ### A nought -/
theorem bt_get (s : ByteArray) (i : Nat) (h : i < s.size) : bt s (i : Int) = ((s.data.toList[i]'(by rw [data_length]; exact h)).toNat : Int) := by
  rw [← bt_at s (i : Int) (by simpa using h)]
  simp
  rfl
theorem bt_zero (s : ByteArray) (i : Nat) (h : i < s.size) : bt s (i : Int) = 0 ↔ s.data.toList[i]? = some 0 := by
  have h' : i < s.data.toList.length := by rw [data_length]; exact h
  rw [bt_get s i h, List.getElem?_eq_getElem h', Option.some_inj]
  constructor
  · intro e
    apply UInt8.toNat_inj.1
    simpa using e
  · intro e
    rw [e]
    rfl
def has0 (s : ByteArray) : Bool := decide (0 ≤ Lib.indexByte s.data.toList 0)
theorem has0_true {s : ByteArray} {i : Nat} (h : i < s.size) (hb : bt s (i : Int) = 0) : has0 s = true := by
  unfold has0
  apply decide_eq_true
  by_cases h0 : Lib.indexByte s.data.toList 0 = -1
  · exact absurd ((bt_zero s i h).1 hb) (Lib.indexByte_none h0 i)
  · have := Lib.indexByte_ge s.data.toList 0
    omega
theorem has0_false {s : ByteArray} (h : ∀ i, i < s.size → bt s (i : Int) ≠ 0) : has0 s = false := by
  unfold has0
  apply decide_eq_false
  intro h0
  obtain ⟨o, ho⟩ := Int.eq_ofNat_of_zero_le h0
  obtain ⟨h1, _⟩ := Lib.indexByte_some ho
  have h2 := (List.getElem?_eq_some_iff.1 h1).1
  rw [data_length] at h2
  exact h o h2 ((bt_zero s o h2).2 h1)
theorem index0 (s : ByteArray) : strings_IndexByte.f s 0 = some (Lib.indexByte s.data.toList 0) := rfl
theorem has0_lt (s : ByteArray) : decide (Lib.indexByte s.data.toList 0 < 0) = !has0 s := by
  unfold has0
  rw [← decide_not]
  exact decide_eq_decide.2 (by omega)

/-! ### A name -/
def isName (s : ByteArray) : Bool := if s.toList = ([] : List UInt8) then false else if (s.size : Int) ≤ 64 then !has0 s else false
theorem name_f (s : ByteArray) : ident_Name.f s = some (isName s) := by
  unfold ident_Name.f isName
  split
  · rfl
  · split
    · rw [index0]
      show some (decide _) = _
      rw [has0_lt]
    · rfl
/-! ### Written -/
theorem wr (s : ByteArray) (i : Nat) (hs : s.size ≤ 140737488351232) (hi : i < s.size) : wrap64 ((i : Int) + 1) = ((i + 1 : Nat) : Int) := by
  rw [w64 (by omega) (by omega)]
  omega
def lowN (s : ByteArray) (n : Nat) : List Int := (List.range n).map fun j => ident_Lower.low (bt s (j : Nat))
def L (s : ByteArray) : ByteArray := strOfNums (lowN s s.size)
theorem lower_f (s : ByteArray) (hs : s.size ≤ 140737488351232) : ident_Lower.f s = some (L s) := if_pos (by omega)
theorem strOfNums_app (a b : List Int) : strOfNums (a ++ b) = strOfNums a ++ strOfNums b := by
  apply ByteArray.ext
  simp [strOfNums]
theorem strOfNums_size (a : List Int) : (strOfNums a).size = a.length := by
  show (strOfNums a).data.size = _
  simp [strOfNums]
theorem lowN_succ (s : ByteArray) (n : Nat) : lowN s (n + 1) = lowN s n ++ [ident_Lower.low (bt s (n : Nat))] := by
  simp [lowN, List.range_succ]
theorem lowN_size (s : ByteArray) (n : Nat) : (lowN s n).length = n := by simp [lowN]
def kws : List ByteArray := [(⟨#[115, 112, 97, 110]⟩ : ByteArray), (⟨#[97, 117, 116, 111]⟩ : ByteArray), (⟨#[105, 110, 105, 116, 105, 97, 108]⟩ : ByteArray), (⟨#[105, 110, 104, 101, 114, 105, 116]⟩ : ByteArray), (⟨#[117, 110, 115, 101, 116]⟩ : ByteArray), (⟨#[100, 101, 102, 97, 117, 108, 116]⟩ : ByteArray), (⟨#[114, 101, 118, 101, 114, 116]⟩ : ByteArray)]
theorem kws_low : kws.map (fun x => (L x).data.toList) = [[115, 112, 97, 110], [97, 117, 116, 111], [105, 110, 105, 116, 105, 97, 108], [105, 110, 104, 101, 114, 105, 116], [117, 110, 115, 101, 116], [100, 101, 102, 97, 117, 108, 116], [114, 101, 118, 101, 114, 116]] := by decide +kernel
def custom (s : ByteArray) : Bool := if kws.any (fun x => (L s).toList == (L x).toList) = true then false else isName s
theorem custom_f (s : ByteArray) (hs : s.size ≤ 140737488351232) : ident_Custom.f s = some (custom s) := by
  have e : kws.any (fun x => (L s).toList == (L x).toList) = (kws.map (fun x => (L x).data.toList)).any (fun x => (L s).toList == x) := by
    rw [List.any_map]
    congr 1
    funext x
    simp only [Function.comp, ByteArray.toList_eq]
  unfold ident_Custom.f custom
  rw [lower_f s hs, e, kws_low, name_f]
  simp only [Option.bind_some, List.any_cons, List.any_nil]
  generalize (L s).toList = x
  repeat' first
    | rfl
    | (split <;> rename_i h1 <;> first | (subst h1; rfl) | skip)
  simp_all
end Go.Proofs.Ytaalmkkekbhpnaa.PureRsCu

