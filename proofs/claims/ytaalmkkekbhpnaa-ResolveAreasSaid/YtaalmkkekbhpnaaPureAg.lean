/- Which rows are areas: area.Good, area.Rects; what their rectangles are. Conditions: as each theorem says. -/
import Derived.Test.YtaalmkkekbhpnaaPRax5
import Derived.Test.YtaalmkkekbhpnaaPRax11
import Derived.Test.YtaalmkkekbhpnaaPureAr
import Derived.Test.YtaalmkkekbhpnaaPureAb
set_option linter.unusedVariables false
set_option linter.unusedSimpArgs false
namespace Go.Proofs.Ytaalmkkekbhpnaa.PureAr
open Go.RowKit Go.Proofs.YtaalmkkekbhpnaaW.PrintWords Go.Proofs.YtaalmkkekbhpnaaW.PrintMore Go.Proofs.Ytaalmkkekbhpnaa.Evs Go.Proofs.Ytaalmkkekbhpnaa.Opn Go.Proofs.Ytaalmkkekbhpnaa.PRa Go.Proofs.Ytaalmkkekbhpnaa.Giv
open Go
def cellOk (s : ByteArray) : Bool := decide (s.size ≤ 64) && s.data.toList.all inB
def rowOk (h : Nat) (l : List ByteArray) : Bool := decide (1 ≤ l.length ∧ l.length ≤ 64 ∧ l.length = h) && l.all cellOk
def boxR (l0 : List (List ByteArray)) : List S32 × List Int := area_boxes.run (area_boxes.cells l0 0)
def fullB (l0 : List (List ByteArray)) : Bool := area_boxes.full (boxR l0).1 (boxR l0).2
def goodB (l0 : List (List ByteArray)) : Bool := decide (l0.length ≤ 64) && (l0.all (rowOk (l0.headD []).length) && fullB l0)
theorem tw_all {f : UInt8 → Bool} : ∀ l : List UInt8, decide ((l.takeWhile f).length < l.length) = !l.all f
  | [] => rfl
  | c :: l => by
    have ih := tw_all (f := f) l
    rw [List.takeWhile_cons, List.all_cons]
    cases f c with
    | false => simp
    | true =>
      simp only [if_true, List.length_cons, Bool.true_and]
      rw [← ih]
      congr 1
      simp
theorem row_len (r : Nat) : ∀ (l : List ByteArray) (c : Nat), (area_boxes.row r l c).length ≤ l.length
  | [], c => by simp [area_boxes.row]
  | s :: l, c => by
    have ih := row_len r l (c + 1)
    rw [show area_boxes.row r (s :: l) c = if s.size = 0 then area_boxes.row r l (c + 1) else (s, (r : Int), (c : Int)) :: area_boxes.row r l (c + 1) from rfl]
    split <;> simp only [List.length_cons] <;> omega
theorem cells_len (m : Nat) : ∀ (l0 : List (List ByteArray)) (r : Nat), (∀ l ∈ l0, l.length ≤ m) → (area_boxes.cells l0 r).length ≤ l0.length * m
  | [], r, _ => by simp [area_boxes.cells]
  | l :: l0, r, h => by
    have ih := cells_len m l0 (r + 1) (fun l hl => h l (List.mem_cons_of_mem _ hl))
    have h1 := row_len r l 0
    have h2 := h l List.mem_cons_self
    rw [area_boxes.cells, List.length_append, List.length_cons, Nat.succ_mul]
    omega
theorem rowOk_len {h : Nat} {l : List ByteArray} (hr : rowOk h l = true) : 1 ≤ l.length ∧ l.length ≤ 64 ∧ l.length = h ∧ ∀ s ∈ l, s.size ≤ 64 ∧ ∀ c ∈ s.data.toList, inB c = true := by
  simp only [rowOk, Bool.and_eq_true, decide_eq_true_eq, List.all_eq_true] at hr
  refine ⟨hr.1.1, hr.1.2.1, hr.1.2.2, fun s hs => ?_⟩
  have := hr.2 s hs
  simp only [cellOk, Bool.and_eq_true, decide_eq_true_eq, List.all_eq_true] at this
  exact this
theorem boxes_f {l0 : List (List ByteArray)} (h1 : l0.length ≤ 64) (h2 : ∀ l ∈ l0, l.length ≤ 64 ∧ ∀ s ∈ l, s.size ≤ 64) (k : Nat) : area_boxes.f k l0 = if fullB l0 = true then some ((boxR l0).1, true) else some ([], false) := by
  have h3 := cells_len 64 l0 0 (fun l hl => (h2 l hl).1)
  unfold area_boxes.f
  rw [if_pos ⟨by omega, by omega, fun l hl => ⟨by have := (h2 l hl).1; omega, fun s hs => by have := (h2 l hl).2 s hs; omega⟩⟩]
  rfl
section
variable {l0 : List (List ByteArray)} {r : Bool} {i : Nat}
theorem good_l1 (row : List ByteArray) (hl : row.length ≤ 64) : ∀ (n j : Nat), j + n = row.length → ((row.drop j).all cellOk = true → Ev (fun k => area_Good.l0 k l0 l0 (l0.length : Int) (wrap64 ((i : Int) + 1))) r) → Ev (fun k => area_Good.l1 k l0 l0 (l0.length : Int) (i : Int) row (row.length : Int) (j : Int)) ((row.drop j).all cellOk && r)
  | 0, j, hj, h => by
    refine ev_step ?_
    simp only [area_Good.l1]
    rw [List.drop_of_length_le (by omega)] at h ⊢
    exact ev_neg (by omega) (h rfl)
  | n + 1, j, hj, h => by
    refine ev_step ?_
    simp only [area_Good.l1]
    have hlt : j < row.length := by omega
    obtain ⟨s, hs⟩ : ∃ s, row[j]? = some s := ⟨_, List.getElem?_eq_getElem hlt⟩
    have e1 : rdOf ByteArray.empty row (j : Int) = s := by
      unfold rdOf
      rw [Int.toNat_natCast, List.getD_eq_getElem?_getD, hs]
      rfl
    have e2 : row.drop j = s :: row.drop (j + 1) := by
      rw [List.drop_eq_getElem_cons hlt, (List.getElem?_eq_some_iff.1 hs).2]
    rw [e1, e2, List.all_cons]
    refine ev_pos (by omega) (ev_pos (by omega) (ev_pos (by omega) (ev_ite (fun hb => ?_) (fun hb => ?_))))
    · refine ev_eq ?_
      have : cellOk s = false := by
        unfold cellOk
        rw [decide_eq_false (by omega)]
        rfl
      rw [this]
      rfl
    · have hc : decide ((s.data.toList.takeWhile inB).length < s.data.toList.length) = !s.data.toList.all inB := tw_all _
      rw [size_list] at hc
      refine ev_bind (run_in (by omega)) (ev_ite (fun hb2 => ?_) (fun hb2 => ?_))
      · refine ev_eq ?_
        rw [decide_eq_true (by omega)] at hc
        have : cellOk s = false := by
          unfold cellOk
          rw [show s.data.toList.all inB = false by simpa using hc.symm, Bool.and_false]
        rw [this]
        rfl
      · rw [decide_eq_false (by omega)] at hc
        have : cellOk s = true := by
          unfold cellOk
          rw [show s.data.toList.all inB = true by simpa using hc.symm, decide_eq_true (by omega)]
          rfl
        rw [this, Bool.true_and, w64 (by omega) (by omega)]
        exact good_l1 row hl n (j + 1) (by omega) (fun h'' => h (by rw [e2, List.all_cons, this, h'']; rfl))
theorem good_l0 (h64 : l0.length ≤ 64) : ∀ (n i : Nat), i + n = l0.length → (∀ l ∈ l0.take i, rowOk (l0.headD []).length l = true) → Ev (fun k => area_Good.l0 k l0 l0 (l0.length : Int) (i : Int)) ((l0.drop i).all (rowOk (l0.headD []).length) && fullB l0)
  | 0, i, hi, hok => by
    refine ev_step ?_
    simp only [area_Good.l0]
    have hi0 : i = l0.length := by omega
    subst hi0
    rw [List.take_length] at hok
    rw [List.drop_length]
    refine ev_neg (by omega) ?_
    have hb : ∀ k, area_boxes.f k l0 = if fullB l0 = true then some ((boxR l0).1, true) else some ([], false) := boxes_f h64 (fun l hl => by
      obtain ⟨_, a, _, b⟩ := rowOk_len (hok l hl)
      exact ⟨a, fun s hs => (b s hs).1⟩)
    refine Ev.congr (f := fun _ => some (fullB l0)) (fun k => ?_) (ev_eq (by rw [List.all_nil, Bool.true_and]))
    rw [hb]
    cases fullB l0 <;> rfl
  | n + 1, i, hi, hok => by
    refine ev_step ?_
    simp only [area_Good.l0]
    have hlt : i < l0.length := by omega
    obtain ⟨row, hs⟩ : ∃ s, l0[i]? = some s := ⟨_, List.getElem?_eq_getElem hlt⟩
    have e1 : rd_L1 l0 (i : Int) = row := by
      unfold rd_L1
      rw [Int.toNat_natCast, List.getD_eq_getElem?_getD, hs]
      rfl
    have e2 : l0.drop i = row :: l0.drop (i + 1) := by
      rw [List.drop_eq_getElem_cons hlt, (List.getElem?_eq_some_iff.1 hs).2]
    have e3 : rd_L1 l0 0 = l0.headD [] := by
      unfold rd_L1
      cases l0 <;> rfl
    rw [e1, e2, e3, List.all_cons]
    have bad : rowOk (l0.headD []).length row = false → Ev (fun k => area_Good.j1 k l0 row l0 (l0.length : Int) (i : Int) true) ((rowOk (l0.headD []).length row && (l0.drop (i + 1)).all (rowOk (l0.headD []).length)) && fullB l0) := fun hb => by
      rw [hb]
      refine ev_step ?_
      simp only [area_Good.j1]
      exact ev_pos (by trivial) (ev_eq rfl)
    refine ev_pos (by omega) (ev_pos (by omega) (ev_pos (by omega) (ev_ite (fun h1 => bad ?_) (fun h1 => ev_ite (fun h2 => bad ?_) (fun h2 => ev_pos (by omega) ?_)))))
    · unfold rowOk
      rw [decide_eq_false (by omega)]
      rfl
    · unfold rowOk
      rw [decide_eq_false (by omega)]
      rfl
    · by_cases h3 : row.length = (l0.headD []).length
      · rw [show ((row.length : Int) != ((l0.headD []).length : Int)) = false by rw [h3]; simp]
        refine ev_step ?_
        simp only [area_Good.j1]
        refine ev_neg (by decide) ?_
        have hr : rowOk (l0.headD []).length row = row.all cellOk := by
          unfold rowOk
          rw [decide_eq_true ⟨by omega, by omega, h3⟩, Bool.true_and]
        have := good_l1 (i := i) (r := (l0.drop (i + 1)).all (rowOk (l0.headD []).length) && fullB l0) row (by omega) row.length 0 (by omega) (fun hc => by
          rw [w64 (by omega) (by omega)]
          exact good_l0 h64 n (i + 1) (by omega) (fun l hl => by
            rw [List.take_add_one, hs] at hl
            rcases List.mem_append.1 hl with hl | hl
            · exact hok l hl
            · simp at hl
              subst hl
              rw [hr]
              exact hc))
        rw [List.drop_zero, ← hr] at this
        rw [Bool.and_assoc]
        exact this
      · rw [show ((row.length : Int) != ((l0.headD []).length : Int)) = true by simp only [bne_iff_ne, ne_eq]; omega]
        refine bad ?_
        unfold rowOk
        rw [decide_eq_false (by omega)]
        rfl
end
theorem good_ev (l0 : List (List ByteArray)) : Ev (fun k => area_Good.f k l0) (goodB l0) := by
  simp only [area_Good.f]
  refine ev_ite (fun h => ev_eq ?_) (fun h => ?_)
  · unfold goodB
    rw [decide_eq_false (by omega)]
    rfl
  · have := good_l0 (l0 := l0) (by omega) l0.length 0 (by omega) (fun l hl => by simp at hl)
    rw [List.drop_zero] at this
    unfold goodB
    rw [decide_eq_true (by omega), Bool.true_and]
    exact this
structure GoodA (l0 : List (List ByteArray)) : Prop where
  n : l0.length ≤ 64
  row : ∀ l ∈ l0, 1 ≤ l.length ∧ l.length ≤ 64 ∧ l.length = (l0.headD []).length ∧ ∀ s ∈ l, s.size ≤ 64 ∧ ∀ c ∈ s.data.toList, inB c = true
  full : fullB l0 = true
theorem good_of {l0 : List (List ByteArray)} (h : goodB l0 = true) : GoodA l0 := by
  simp only [goodB, Bool.and_eq_true, decide_eq_true_eq, List.all_eq_true] at h
  exact ⟨h.1, fun l hl => rowOk_len (h.2.1 l hl), h.2.2⟩
theorem good_boxes {l0 : List (List ByteArray)} (h : GoodA l0) (k : Nat) : area_boxes.f k l0 = some ((boxR l0).1, true) := by
  rw [boxes_f h.n (fun l hl => ⟨(h.row l hl).2.1, fun s hs => ((h.row l hl).2.2.2 s hs).1⟩), h.full]
  rfl
theorem rects_ev {l0 : List (List ByteArray)} (h : goodB l0 = true) : Ev (fun k => area_Rects.f k l0) (boxR l0).1 := by
  simp only [area_Rects.f]
  have hg := good_ev l0
  rw [h] at hg
  refine ev_bind hg (ev_pos rfl (Ev.congr (f := fun _ => some (boxR l0).1) (fun k => ?_) ev_some))
  rw [good_boxes (good_of h)]
  rfl
theorem rects_none {l0 : List (List ByteArray)} (h : goodB l0 = false) : Ev (fun k => area_Rects.f k l0) [] := by
  simp only [area_Rects.f]
  have hg := good_ev l0
  rw [h] at hg
  exact ev_bind hg (ev_neg (by decide) ev_some)
/-- What a rectangle has. -/
def inRect (b : S32) (r c : Int) : Prop := b.f1 ≤ r ∧ r < b.f1 + b.f3 ∧ b.f2 ≤ c ∧ c < b.f2 + b.f4
instance (b : S32) (r c : Int) : Decidable (inRect b r c) := by unfold inRect; exact inferInstance
/-- The laws of rows that are areas. -/
structure AreasA (l0 : List (List ByteArray)) (out : List S32) : Prop where
  dims : ∀ b ∈ out, 0 ≤ b.f1 ∧ b.f1 < 1000000 ∧ 0 ≤ b.f2 ∧ b.f2 < 1000000 ∧ 1 ≤ b.f3 ∧ b.f1 + b.f3 ≤ 1000000 ∧ 1 ≤ b.f4 ∧ b.f2 + b.f4 ≤ 1000000
  has : ∀ b ∈ out, ∀ r c : Nat, inRect b r c ↔ (arAt l0 r c = some b.f0 ∧ b.f0.size ≠ 0)
  nodup : (out.map (·.f0)).Nodup
  all : ∀ (r c : Nat) (s : ByteArray), arAt l0 r c = some s → s.size ≠ 0 → ∃ b ∈ out, b.f0 = s
  names : out.map (·.f0) = arFirsts (area_boxes.cells l0 0)
theorem firsts_len : ∀ pre : List (ByteArray × Int × Int), (arFirsts pre).length ≤ pre.length := by
  intro pre
  have : ∀ (n : Nat) (pre : List (ByteArray × Int × Int)), pre.length = n → (arFirsts pre).length ≤ pre.length := by
    intro n
    induction n with
    | zero =>
      intro pre h
      obtain rfl := List.length_eq_zero_iff.1 h
      simp [arFirsts]
    | succ n ih =>
      intro pre h
      obtain ⟨p, x, rfl⟩ : ∃ p x, pre = p ++ [x] := ⟨pre.dropLast, pre.getLast (by intro e; simp [e] at h), (List.dropLast_concat_getLast _).symm⟩
      have := ih p (by simpa using h)
      rw [ar_firsts_snoc]
      split <;> simp only [List.length_append, List.length_singleton] <;> omega
  exact this _ pre rfl
theorem cells_in {l0 : List (List ByteArray)} (h1 : l0.length ≤ 64) (h2 : ∀ l ∈ l0, l.length ≤ 64) : ∀ y ∈ area_boxes.cells l0 0, arIn y := by
  intro y hy
  obtain ⟨r, c, e1, e2, e3, _⟩ := (ar_cells_mem l0 0 y).1 hy
  unfold arAt at e3
  obtain ⟨l, hl, hc⟩ := Option.bind_eq_some_iff.1 e3
  have h3 := (List.getElem?_eq_some_iff.1 hl).1
  have h4 := (List.getElem?_eq_some_iff.1 hc).1
  have h5 := h2 l (List.mem_of_getElem? hl)
  unfold arIn
  omega
theorem box_inv {l0 : List (List ByteArray)} (h1 : l0.length ≤ 64) (h2 : ∀ l ∈ l0, l.length ≤ 64) : ArInv (area_boxes.cells l0 0) (boxR l0).1 (boxR l0).2 := by
  have h3 := cells_len 64 l0 0 h2
  exact ar_run_inv _ _ rfl (ar_cells_sorted l0 0) (cells_in h1 h2) (by omega)
theorem areas_of {l0 : List (List ByteArray)} (h : GoodA l0) : AreasA l0 (boxR l0).1 := by
  have hl2 : ∀ l ∈ l0, l.length ≤ 64 := fun l hl => (h.row l hl).2.1
  have hv := box_inv h.n hl2
  have hin := cells_in h.n hl2
  have hso := ar_cells_sorted l0 0
  have hf := (ar_full_iff _ _).1 h.full
  have key : ∀ b ∈ (boxR l0).1, ∃ n, ArBox (area_boxes.cells l0 0) b n ∧ wrap64 (b.f3 * b.f4) = n := by
    intro b hb
    obtain ⟨k, hk⟩ := List.mem_iff_getElem?.1 hb
    have hlt := (List.getElem?_eq_some_iff.1 hk).1
    obtain ⟨n, hn⟩ : ∃ n, (boxR l0).2[k]? = some n := ⟨_, List.getElem?_eq_getElem (by rw [← hv.len]; exact hlt)⟩
    exact ⟨n, hv.box k b n hk hn, hf k b n hk hn⟩
  refine ⟨fun b hb => ?_, fun b hb r c => ?_, ?_, fun r c s hs hz => ?_, hv.names⟩
  · obtain ⟨n, hB, _⟩ := key b hb
    exact ar_box_dims hB hin
  · obtain ⟨n, hB, hn⟩ := key b hb
    unfold inRect
    rw [← ar_box_full hB hso hin hn (r : Int) (c : Int), ar_cells_mem]
    constructor
    · rintro ⟨r', c', e1, e2, e3, e4⟩
      dsimp only at e1 e2 e3 e4
      have e5 : r' = r := by omega
      have e6 : c' = c := by omega
      subst e5 e6
      exact ⟨e3, e4⟩
    · rintro ⟨e3, e4⟩
      exact ⟨r, c, by dsimp only; omega, rfl, e3, e4⟩
  · rw [hv.names]
    exact ar_firsts_nodup _ _ rfl
  · have hm : s ∈ (boxR l0).1.map (·.f0) := by
      rw [hv.names, ar_firsts_mem s _ _ rfl]
      exact ⟨(s, (r : Int), (c : Int)), (ar_cells_mem _ _ _).2 ⟨r, c, by dsimp only; omega, rfl, hs, hz⟩, rfl⟩
    obtain ⟨b, hb, e⟩ := List.mem_map.1 hm
    exact ⟨b, hb, e⟩
theorem filter_one {s : ByteArray} : ∀ {out : List S32}, (out.map (·.f0)).Nodup → (∃ b ∈ out, b.f0 = s) → (out.filter (fun b => decide (b.f0 = s))).length = 1
  | [], _, h => by simp at h
  | b :: out, hn, h => by
    rw [List.map_cons, List.nodup_cons] at hn
    by_cases e : b.f0 = s
    · rw [List.filter_cons, if_pos (by simpa using e)]
      have : out.filter (fun b => decide (b.f0 = s)) = [] := by
        refine List.filter_eq_nil_iff.2 (fun y hy h2 => hn.1 ?_)
        rw [e, ← of_decide_eq_true h2]
        exact List.mem_map.2 ⟨y, hy, rfl⟩
      rw [this]
      rfl
    · rw [List.filter_cons, if_neg (by simpa using e)]
      refine filter_one hn.2 ?_
      obtain ⟨y, hy, e2⟩ := h
      rcases List.mem_cons.1 hy with rfl | hy
      · exact absurd e2 e
      · exact ⟨y, hy, e2⟩
/-- How many rectangles a cell is in. -/
theorem rects_count {l0 : List (List ByteArray)} {out : List S32} (h : AreasA l0 out) {r c : Nat} {s : ByteArray} (hs : arAt l0 r c = some s) :
    (out.filter (fun b => decide (inRect b r c))).length = min 1 s.size ∧ ∀ b ∈ out, inRect b r c → b.f0 = s := by
  have hn : ∀ b ∈ out, inRect b r c ↔ (b.f0 = s ∧ s.size ≠ 0) := fun b hb => by
    rw [h.has b hb, hs]
    constructor
    · rintro ⟨e, hz⟩
      cases e
      exact ⟨rfl, hz⟩
    · rintro ⟨rfl, hz⟩
      exact ⟨rfl, hz⟩
  refine ⟨?_, fun b hb hi => ((hn b hb).1 hi).1⟩
  by_cases hz : s.size = 0
  · rw [List.filter_eq_nil_iff.2 (fun b hb hi => ((hn b hb).1 (of_decide_eq_true hi)).2 hz), hz]
    rfl
  · have e : out.filter (fun b => decide (inRect b r c)) = out.filter (fun b => decide (b.f0 = s)) := by
      apply List.filter_congr
      intro b hb
      have := hn b hb
      by_cases hi : inRect b r c
      · rw [decide_eq_true hi, decide_eq_true (this.1 hi).1]
      · rw [decide_eq_false hi, decide_eq_false (fun e => hi (this.2 ⟨e, hz⟩))]
    rw [e, filter_one h.nodup (h.all r c s hs hz)]
    omega
end Go.Proofs.Ytaalmkkekbhpnaa.PureAr

