/- Rows' cells: area.Cells and the document's Cells, of any text. Conditions: as each theorem says. -/
import Derived.Test.YtaalmkkekbhpnaaPRax4
import Derived.Test.YtaalmkkekbhpnaaPRax11
import Derived.Test.YtaalmkkekbhpnaaEv
set_option linter.unusedVariables false
set_option linter.unusedSimpArgs false
namespace Go.Proofs.Ytaalmkkekbhpnaa.PureAr
open Go.RowKit Go.Proofs.YtaalmkkekbhpnaaW.PrintWords Go.Proofs.YtaalmkkekbhpnaaW.PrintMore Go.Proofs.Ytaalmkkekbhpnaa.Evs Go.Proofs.Ytaalmkkekbhpnaa.Opn Go.Proofs.Ytaalmkkekbhpnaa.PRa Go.Proofs.Ytaalmkkekbhpnaa.Giv
open Go
/-! ### The 256 bytes -/
def inB (c : UInt8) : Bool := area_inner.f (c.toNat : Int) == some true
def blB (c : UInt8) : Bool := [32, 9, 10, 13, 12].contains c
def doB (c : UInt8) : Bool := c == 46
theorem inn_all : (List.range 256).all (fun n => (area_inner.f (n : Int)).isSome) = true := by decide +kernel
theorem in_f (c : UInt8) : area_inner.f (c.toNat : Int) = some (inB c) := by
  have h := List.all_eq_true.1 inn_all c.toNat (List.mem_range.2 c.toNat_lt)
  obtain ⟨t, ht⟩ := Option.isSome_iff_exists.1 h
  unfold inB
  rw [ht]
  cases t <;> rfl
theorem dot_bl {c : UInt8} (h : c = 46) : blB c = false := by subst h; decide
theorem dot_int {c : UInt8} : ((c.toNat : Int) = 46) ↔ c = 46 := by
  constructor
  · intro h
    apply UInt8.toNat.inj
    have : c.toNat = 46 := by omega
    rw [this]
    rfl
  · rintro rfl
    rfl

/-! ### Texts and the rest from a place on -/
def T (l : List UInt8) : ByteArray := ⟨l.toArray⟩
theorem T_list (l : List UInt8) : (T l).data.toList = l := by simp [T]
theorem T_size (l : List UInt8) : (T l).size = l.length := by
  show l.toArray.size = _
  simp
theorem T_of (s : ByteArray) : T s.data.toList = s := by simp [T]
def Dr (x : ByteArray) (i : Nat) (l : List UInt8) : Prop := x.data.toList.drop i = l ∧ i + l.length = x.size
section
variable {x : ByteArray} {i : Nat} {c : UInt8} {l A B : List UInt8}
theorem size_list (x : ByteArray) : x.data.toList.length = x.size := by simp
theorem Dr.all (x : ByteArray) : Dr x 0 x.data.toList := ⟨rfl, by rw [size_list]; omega⟩
theorem Dr.get (h : Dr x i (c :: l)) : i < x.size ∧ bt x (i : Int) = (c.toNat : Int) := by
  have h1 : x.data.toList[i]? = some c := by
    have := congrArg (fun z => z[0]?) h.1
    simpa using this
  obtain ⟨h2, h3⟩ := List.getElem?_eq_some_iff.1 h1
  rw [size_list] at h2
  refine ⟨h2, ?_⟩
  rw [← bt_at x (i : Int) (by simpa using h2), ← h3]
  simp
  rfl
theorem Dr.tail (h : Dr x i (c :: l)) : Dr x (i + 1) l := by
  refine ⟨?_, by have := h.2; simp only [List.length_cons] at this; omega⟩
  rw [← List.drop_drop, h.1]
  rfl
theorem Dr.right (h : Dr x i (A ++ B)) : Dr x (i + A.length) B := by
  refine ⟨?_, by have := h.2; rw [List.length_append] at this; omega⟩
  rw [← List.drop_drop, h.1, List.drop_left]
theorem Dr.nil (h : Dr x i []) : i = x.size := by simpa using h.2
theorem Dr.ext (h : Dr x i (A ++ B)) : x.extract i (i + A.length) = T A := by
  apply Go.WideShapes.bytes_inj
  rw [ByteArray.data_extract, Array.toList_extract, List.extract_eq_take_drop, h.1, T_list, Nat.add_sub_cancel_left, List.take_left]
end
theorem T_drop (A B : List UInt8) : (T (A ++ B)).extract A.length (T (A ++ B)).size = T B := by
  apply Go.WideShapes.bytes_inj
  rw [ByteArray.data_extract, Array.toList_extract, List.extract_eq_take_drop, T_list, T_list, List.drop_left, T_size, List.length_append, Nat.add_sub_cancel_left, List.take_length]
theorem T_take (A B : List UInt8) : (T (A ++ B)).extract 0 A.length = T A := by
  apply Go.WideShapes.bytes_inj
  rw [ByteArray.data_extract, Array.toList_extract, List.extract_eq_take_drop, T_list, T_list, List.drop_zero, Nat.sub_zero, List.take_left]
theorem tw_app {f : UInt8 → Bool} : ∀ {A B : List UInt8}, (∀ c ∈ A, f c = true) → (∀ c B', B = c :: B' → f c = false) → (A ++ B).takeWhile f = A
  | [], [], _, _ => rfl
  | [], c :: B, _, h => by
    rw [List.nil_append, List.takeWhile_cons, h c B rfl]
    rfl
  | a :: A, B, h, h2 => by
    rw [List.cons_append, List.takeWhile_cons, h a List.mem_cons_self, if_pos rfl, tw_app (fun c hc => h c (List.mem_cons_of_mem _ hc)) h2]
theorem tw_none {f : UInt8 → Bool} {B : List UInt8} (h : ∀ c B', B = c :: B' → f c = false) : B.takeWhile f = [] := tw_app (A := []) (fun _ h => by cases h) h
/-- A list in two: as long as f holds; the rest. -/
theorem two_parts (f : UInt8 → Bool) : ∀ l : List UInt8, ∃ A B, l = A ++ B ∧ (∀ c ∈ A, f c = true) ∧ (∀ c B', B = c :: B' → f c = false)
  | [] => ⟨[], [], rfl, by simp, by simp⟩
  | c :: l => by
    cases hc : f c with
    | false => exact ⟨[], c :: l, rfl, by simp, fun c' B' e => by cases e; exact hc⟩
    | true =>
      obtain ⟨A, B, rfl, h1, h2⟩ := two_parts f l
      refine ⟨c :: A, B, rfl, fun c' h => ?_, h2⟩
      rcases List.mem_cons.1 h with rfl | h
      · exact hc
      · exact h1 c' h

/-! ### run -/
theorem test_in (c : UInt8) : area_run.test 18 (c.toNat : Int) = some (inB c) := by
  unfold area_run.test
  rw [if_pos rfl]
  exact in_f c
theorem run_l0 {p : Nat} {f : UInt8 → Bool} (hf : ∀ c : UInt8, area_run.test p (c.toNat : Int) = some (f c)) {s : ByteArray} (hs : s.size ≤ 1000000) : ∀ (l : List UInt8) (n : Nat), Dr s n l → Ev (fun k => area_run.l0 k s p (n : Int)) ((n + (l.takeWhile f).length : Nat) : Int)
  | [], n, h => by
    refine ev_step ?_
    simp only [area_run.l0]
    have := h.nil
    exact ev_neg (by omega) (ev_eq (by simp))
  | c :: l, n, h => by
    refine ev_step ?_
    simp only [area_run.l0]
    obtain ⟨h1, h2⟩ := h.get
    rw [h2]
    refine ev_pos (by omega) (ev_pos (by omega) (ev_bindc (hf c) ?_))
    rw [w64 (by omega) (by omega), List.takeWhile_cons]
    cases hc : f c with
    | true =>
      refine ev_pos rfl (ev_cast (run_l0 hf hs l (n + 1) h.tail) ?_)
      simp only [if_true, List.length_cons]
      omega
    | false => exact ev_neg (by decide) (ev_eq (by simp))
theorem run_in {s : ByteArray} (hs : s.size ≤ 1000000) : Ev (fun k => area_run.f k s 18) (((s.data.toList.takeWhile inB).length : Nat) : Int) := by
  simp only [area_run.f]
  refine ev_pos (by simp) (ev_cast (run_l0 test_in hs _ 0 (Dr.all s)) ?_)
  omega
/-! ### area.Cells -/
section
variable {out : List ByteArray} {r : List ByteArray × Bool} {A B l : List UInt8} {c : UInt8}
end

/-! ### The document's Cells -/
section
variable {x : ByteArray} {out : List ByteArray} {r : List ByteArray × Bool} {A B l : List UInt8} {c : UInt8} {i j : Nat}
end
theorem lat (l0 : List (List ByteArray)) {i : Nat} {row : List ByteArray} (h : l0[i]? = some row) : rd_L1 l0 (i : Int) = row := by
  unfold rd_L1
  rw [Int.toNat_natCast, List.getD_eq_getElem?_getD, h]
  rfl
theorem sat (row : List ByteArray) {i : Nat} {s : ByteArray} (h : row[i]? = some s) : rdOf ByteArray.empty row (i : Int) = s := by
  unfold rdOf
  rw [Int.toNat_natCast, List.getD_eq_getElem?_getD, h]
  rfl
section
variable {x : List (List ByteArray)}
end
end Go.Proofs.Ytaalmkkekbhpnaa.PureAr

