/- ResolveAreas, as a statement on lists. Conditions: none beyond the argument's own kind. -/
import Derived.Test.YtaalmkkekbhpnaaPRax3
import Derived.Test.YtaalmkkekbhpnaaPRax5
import Derived.Test.YtaalmkkekbhpnaaPRax6
import Derived.Test.YtaalmkkekbhpnaaPRax9
import Derived.Test.YtaalmkkekbhpnaaPRax10
import Derived.Test.YtaalmkkekbhpnaaPRax11
import Derived.Test.YtaalmkkekbhpnaaPureRs
import Derived.Test.YtaalmkkekbhpnaaPureRaTb
import Derived.Test.YtaalmkkekbhpnaaPureAg
set_option linter.unusedVariables false
set_option linter.unusedSimpArgs false
namespace Go.Proofs.Ytaalmkkekbhpnaa.PureRa
open Go.RowKit Go.Proofs.YtaalmkkekbhpnaaW.PrintWords Go.Proofs.YtaalmkkekbhpnaaW.PrintMore Go.Proofs.Ytaalmkkekbhpnaa.Evs Go.Proofs.Ytaalmkkekbhpnaa.Opn Go.Proofs.Ytaalmkkekbhpnaa.PRa Go.Proofs.Ytaalmkkekbhpnaa.Giv
open Go.Proofs.Ytaalmkkekbhpnaa.PureTb (Ar sN eN atA manyA addS addE adds row tab tab_len tab_at Fine nTable)
open Go.Proofs.Ytaalmkkekbhpnaa.PureRsNm (hits_mem hits_sorted edgeV edgeName firstV)
open Go.Proofs.Ytaalmkkekbhpnaa.PureRs (spanV coreV sureV goodL clampV span_ev pairV isSure)
open Go.Proofs.Ytaalmkkekbhpnaa.PureAr (goodB GoodA AreasA areas_of good_of rects_ev good_ev boxR lat)
open Go
theorem adds_mem (rows : Bool) (i : Nat) (x : ByteArray) : ∀ l : List Ar, x ∈ adds rows i l ↔ ∃ a ∈ l, ((i : Int) = atA rows a ∧ x = sN a) ∨ (wrap64 ((i : Int) - manyA rows a) = atA rows a ∧ x = eN a)
  | [] => by simp [adds]
  | a :: l => by
    have ih := adds_mem rows i x l
    show x ∈ (addS rows a i ++ addE rows a i) ++ adds rows i l ↔ _
    rw [List.mem_append, List.mem_append, ih]
    have h1 : x ∈ addS rows a i ↔ ((i : Int) = atA rows a ∧ x = sN a) := by
      unfold addS
      split
      · rename_i h; simp [h]
      · rename_i h; simp [h]
    have h2 : x ∈ addE rows a i ↔ (wrap64 ((i : Int) - manyA rows a) = atA rows a ∧ x = eN a) := by
      unfold addE
      split
      · rename_i h; simp [h]
      · rename_i h; simp [h]
    rw [h1, h2]
    simp only [List.mem_cons, exists_eq_or_imp]
theorem sN_list (a : Ar) : (sN a).data.toList = a.f0.data.toList ++ [45, 115, 116, 97, 114, 116] := by simp [sN]
theorem eN_list (a : Ar) : (eN a).data.toList = a.f0.data.toList ++ [45, 101, 110, 100] := by simp [eN]
theorem sN_inj {a b : Ar} (h : sN a = sN b) : a.f0 = b.f0 := by
  have := congrArg (fun z : ByteArray => z.data.toList) h
  rw [sN_list, sN_list] at this
  exact Go.WideShapes.bytes_inj (List.append_cancel_right this)
theorem eN_inj {a b : Ar} (h : eN a = eN b) : a.f0 = b.f0 := by
  have := congrArg (fun z : ByteArray => z.data.toList) h
  rw [eN_list, eN_list] at this
  exact Go.WideShapes.bytes_inj (List.append_cancel_right this)
theorem sN_ne {a b : Ar} : sN a ≠ eN b := by
  intro h
  have := congrArg (fun z : ByteArray => z.data.toList.getLast?) h
  rw [sN_list, eN_list, List.getLast?_append, List.getLast?_append] at this
  simp at this
theorem names_inj {out : List Ar} (hn : (out.map (·.f0)).Nodup) {a b : Ar} (ha : a ∈ out) (hb : b ∈ out) (h : a.f0 = b.f0) : a = b := by
  obtain ⟨i, hi⟩ := List.mem_iff_getElem?.1 ha
  obtain ⟨j, hj⟩ := List.mem_iff_getElem?.1 hb
  have h1 : (out.map (·.f0))[i]? = some a.f0 := by simp [hi]
  have h2 : (out.map (·.f0))[j]? = some a.f0 := by simp [hj, h]
  have := (List.getElem?_inj (by rw [List.length_map]; exact (List.getElem?_eq_some_iff.1 hi).1) hn).1 (h1.trans h2.symm)
  subst this
  exact Option.some.inj (hi.symm.trans hj)
/-- Areas along an axis of n lines. -/
structure Along (rows : Bool) (n : Nat) (out : List Ar) : Prop where
  names : (out.map (·.f0)).Nodup
  bd : ∀ a ∈ out, 0 ≤ atA rows a ∧ 1 ≤ manyA rows a ∧ atA rows a + manyA rows a ≤ n
  n : n ≤ 64
section
variable {rows : Bool} {n : Nat} {out : List Ar} {a : Ar}
theorem has_iff (x : ByteArray) (hx : x.toList ≠ []) (l : List ByteArray) : hasN l x = true ↔ x ∈ l := by
  unfold hasN
  rw [show (x.toList == ([] : List UInt8)) = false from beq_eq_false_iff_ne.2 hx, Bool.false_or, List.any_eq_true]
  constructor
  · rintro ⟨y, hy, e⟩
    rw [beq_iff_eq, ByteArray.toList_eq, ByteArray.toList_eq] at e
    rw [← Go.WideShapes.bytes_inj e]
    exact hy
  · exact fun h => ⟨x, h, by simp⟩
def lines (rows : Bool) (n : Nat) (out : List Ar) : List (List ByteArray) := tab (n + 1) (row [] rows out)
theorem lines_at {i : Nat} (hi : i < n + 1) : lineAt (lines rows n out) i = adds rows i out := by
  unfold lines
  rw [tab_at (n + 1) _ hi]
  show lineAt [] i ++ adds rows i out = _
  rfl
theorem lines_len : (lines rows n out).length = n + 1 := tab_len _ _
theorem one_hit {t : List (List ByteArray)} {s : ByteArray} {p : Nat} (hp : p < t.length) (h : ∀ i, i < t.length → (hasN (lineAt t i) s = true ↔ i = p)) : hitsK t s t.length = [(p : Int)] := by
  have hm : (p : Int) ∈ hitsK t s t.length := (hits_mem t s t.length _).2 ⟨p, hp, (h p hp).2 rfl, rfl⟩
  have hall : ∀ x ∈ hitsK t s t.length, x = (p : Int) := fun x hx => by
    obtain ⟨i, h1, h2, rfl⟩ := (hits_mem t s t.length x).1 hx
    rw [(h i h1).1 h2]
  have hs := hits_sorted t s t.length
  match hh : hitsK t s t.length, hm, hall, hs with
  | [], hm, _, _ => cases hm
  | [x], _, hall, _ => rw [hall x List.mem_cons_self]
  | x :: y :: l, _, hall, hs =>
    have h1 := hall x List.mem_cons_self
    have h2 := hall y (List.mem_cons_of_mem _ List.mem_cons_self)
    have := (List.pairwise_cons.1 hs).1 y List.mem_cons_self
    omega
theorem edge_s (h : Along rows n out) (ha : a ∈ out) : edgeV (lines rows n out) a.f0 false = (atA rows a, true) := by
  have hb := h.bd a ha
  have hn := h.n
  have e : hitsK (lines rows n out) (sN a) (lines rows n out).length = [((atA rows a).toNat : Int)] := by
    refine one_hit (by rw [lines_len]; omega) (fun i hi => ?_)
    rw [lines_len] at hi
    rw [lines_at hi, has_iff _ (by rw [ByteArray.toList_eq, sN_list]; simp), adds_mem]
    constructor
    · rintro ⟨b, hb2, ⟨e1, e2⟩ | ⟨_, e2⟩⟩
      · have := names_inj h.names ha hb2 (sN_inj e2)
        subst this
        omega
      · exact absurd e2 sN_ne
    · rintro rfl
      exact ⟨a, ha, .inl ⟨by omega, rfl⟩⟩
  unfold edgeV
  rw [show edgeName a.f0 false = sN a from rfl, e]
  unfold firstV
  rw [if_neg (by simp)]
  show (((atA rows a).toNat : Int), true) = _
  rw [show ((atA rows a).toNat : Int) = atA rows a by omega]
theorem edge_e (h : Along rows n out) (ha : a ∈ out) : edgeV (lines rows n out) a.f0 true = (atA rows a + manyA rows a, true) := by
  have hb := h.bd a ha
  have hn := h.n
  have hw : ∀ (i : Nat) (b : Ar), i < n + 1 → b ∈ out → wrap64 ((i : Int) - manyA rows b) = (i : Int) - manyA rows b := fun i b hi hb2 => by
    have := h.bd b hb2
    exact w64 (by omega) (by omega)
  have e : hitsK (lines rows n out) (eN a) (lines rows n out).length = [((atA rows a + manyA rows a).toNat : Int)] := by
    refine one_hit (by rw [lines_len]; omega) (fun i hi => ?_)
    rw [lines_len] at hi
    rw [lines_at hi, has_iff _ (by rw [ByteArray.toList_eq, eN_list]; simp), adds_mem]
    constructor
    · rintro ⟨b, hb2, ⟨_, e2⟩ | ⟨e1, e2⟩⟩
      · exact absurd e2.symm sN_ne
      · have := names_inj h.names ha hb2 (eN_inj e2)
        subst this
        rw [hw i a hi ha] at e1
        omega
    · rintro rfl
      refine ⟨a, ha, .inr ⟨?_, rfl⟩⟩
      rw [hw _ a hi ha]
      omega
  unfold edgeV
  rw [show edgeName a.f0 true = eN a from rfl, e]
  unfold firstV
  rw [if_neg (by simp)]
  show (((atA rows a + manyA rows a).toNat : Int), true) = _
  rw [show ((atA rows a + manyA rows a).toNat : Int) = atA rows a + manyA rows a by omega]
theorem span_v (h : Along rows n out) (ha : a ∈ out) (hg : goodL 3 0 a.f0 = true) : spanV (lines rows n out) 3 0 a.f0 3 0 a.f0 = (false, atA rows a, atA rows a + manyA rows a, 0, 0) := by
  have hb := h.bd a ha
  have hn := h.n
  unfold spanV
  rw [if_neg (by rw [lines_len]; rintro (h1 | h1 | h1 | h1) <;> first | omega | (rw [hg] at h1; cases h1)), if_neg (by decide)]
  have s1 : sureV (lines rows n out) 3 0 a.f0 false = (atA rows a, true) := by
    unfold sureV
    rw [if_pos rfl, edge_s h ha, if_pos rfl]
  have s2 : sureV (lines rows n out) 3 0 a.f0 true = (atA rows a + manyA rows a, true) := by
    unfold sureV
    rw [if_pos rfl, edge_e h ha, if_pos rfl]
  unfold coreV
  rw [s1, s2]
  show (if isSure 3 = true then (if isSure 3 = true then (if atA rows a > atA rows a + manyA rows a then _ else if atA rows a = atA rows a + manyA rows a then _ else _) else _) else _) = _
  rw [if_pos (by decide), if_pos (by decide), if_neg (by omega), if_neg (by omega)]
  unfold clampV pairV
  rw [if_neg (by omega), if_neg (by omega), if_neg (by omega), mx_eq, mn_eq]
  simp only [Prod.mk.injEq, true_and, and_true]
  omega
theorem adds_sz (i : Nat) (h : ∀ a ∈ out, a.f0.size ≤ 64) : ∀ s ∈ adds rows i out, s.size ≤ 100 := by
  intro s hs
  have h1 : (⟨#[45, 101, 110, 100]⟩ : ByteArray).size = 4 := rfl
  have h2 : (⟨#[45, 115, 116, 97, 114, 116]⟩ : ByteArray).size = 6 := rfl
  obtain ⟨a, ha, ⟨_, rfl⟩ | ⟨_, rfl⟩⟩ := (adds_mem rows i s out).1 hs
  · have := h a ha
    unfold sN
    rw [ByteArray.size_append]
    omega
  · have := h a ha
    unfold eN
    rw [ByteArray.size_append]
    omega
theorem small_lines (hn : n ≤ 64) (hl : out.length ≤ 4096) (h : ∀ a ∈ out, a.f0.size ≤ 64) : Small (lines rows n out) := by
  refine ⟨by rw [lines_len]; omega, fun l hl2 => ?_⟩
  obtain ⟨i, hi⟩ := List.mem_iff_getElem?.1 hl2
  have hlt := (List.getElem?_eq_some_iff.1 hi).1
  rw [lines_len] at hlt
  have e : lineAt (lines rows n out) i = l := by
    unfold lineAt
    rw [List.getD_eq_getElem?_getD, hi]
    rfl
  rw [← e, lines_at hlt]
  have h1 := Go.Proofs.Ytaalmkkekbhpnaa.PureTb.adds_len rows i out
  exact ⟨by omega, fun s hs => by have := adds_sz (rows := rows) i h s hs; omega⟩
end
theorem area_at {l0 : List (List ByteArray)} {out : List Ar} (h : AreasA l0 out) {a : Ar} (ha : a ∈ out) {r c : Nat} (hr : a.f1 ≤ (r : Int) ∧ (r : Int) < a.f1 + a.f3 ∧ a.f2 ≤ (c : Int) ∧ (c : Int) < a.f2 + a.f4) : ∃ row, l0[r]? = some row ∧ row[c]? = some a.f0 := by
  have := ((h.has a ha r c).1 hr).1
  unfold arAt at this
  obtain ⟨row, h1, h2⟩ := Option.bind_eq_some_iff.1 this
  exact ⟨row, h1, h2⟩
theorem along_rows {l0 : List (List ByteArray)} {out : List Ar} (hg : GoodA l0) (h : AreasA l0 out) : Along true l0.length out := by
  refine ⟨h.nodup, fun a ha => ?_, hg.n⟩
  have dm := h.dims a ha
  obtain ⟨row, h1, _⟩ := area_at h ha (r := (a.f1 + a.f3 - 1).toNat) (c := a.f2.toNat) (by omega)
  have := (List.getElem?_eq_some_iff.1 h1).1
  show 0 ≤ a.f1 ∧ 1 ≤ a.f3 ∧ a.f1 + a.f3 ≤ l0.length
  omega
theorem along_cols {l0 : List (List ByteArray)} {out : List Ar} (hg : GoodA l0) (h : AreasA l0 out) (h0 : l0 ≠ []) : Along false (l0.headD []).length out := by
  have hrow : ∀ row ∈ l0, row.length = (l0.headD []).length ∧ row.length ≤ 64 := fun row hr => ⟨(hg.row row hr).2.2.1, (hg.row row hr).2.1⟩
  refine ⟨h.nodup, fun a ha => ?_, ?_⟩
  · have dm := h.dims a ha
    obtain ⟨row, h1, h2⟩ := area_at h ha (r := a.f1.toNat) (c := (a.f2 + a.f4 - 1).toNat) (by omega)
    have h3 := (List.getElem?_eq_some_iff.1 h2).1
    have h4 := (hrow row (List.mem_of_getElem? h1)).1
    show 0 ≤ a.f2 ∧ 1 ≤ a.f4 ∧ a.f2 + a.f4 ≤ (l0.headD []).length
    omega
  · match l0, h0, hrow with
    | r0 :: rs, _, hrow => exact (hrow r0 List.mem_cons_self).2
theorem area_name {l0 : List (List ByteArray)} {out : List Ar} (hg : GoodA l0) (h : AreasA l0 out) {a : Ar} (ha : a ∈ out) : a.f0.size ≤ 64 := by
  have dm := h.dims a ha
  obtain ⟨row, h1, h2⟩ := area_at h ha (r := a.f1.toNat) (c := a.f2.toNat) (by omega)
  exact ((hg.row row (List.mem_of_getElem? h1)).2.2.2 _ (List.mem_of_getElem? h2)).1
theorem out_len {l0 : List (List ByteArray)} (hg : GoodA l0) : (boxR l0).1.length ≤ 4096 := by
  have h1 := Go.Proofs.Ytaalmkkekbhpnaa.PureAr.cells_len 64 l0 0 (fun l hl => (hg.row l hl).2.1)
  have h2 : (boxR l0).1.length = (arFirsts (area_boxes.cells l0 0)).length := by rw [← (Go.Proofs.Ytaalmkkekbhpnaa.PureAr.box_inv hg.n (fun l hl => (hg.row l hl).2.1)).names, List.length_map]
  have h3 := Go.Proofs.Ytaalmkkekbhpnaa.PureAr.firsts_len (area_boxes.cells l0 0)
  have := hg.n
  omega
section
variable {out : List Ar} {n m : Nat}
theorem law_l0 (hr : Along true n out) (hc : Along false m out) (hl : out.length ≤ 4096) (hz : ∀ a ∈ out, a.f0.size ≤ 64) : ∀ (d j : Nat), j + d = out.length → Ev (fun k => parterrelaw18_ResolveAreas.l0 k (lines true n out) (lines false m out) out (out.length : Int) (j : Int)) true
  | 0, j, hj => by
    refine ev_step ?_
    simp only [parterrelaw18_ResolveAreas.l0]
    exact ev_neg (by omega) (ev_bind Go.Proofs.Ytaalmkkekbhpnaa.PureRs.lives_ev ev_some)
  | d + 1, j, hj => by
    obtain ⟨a, ha⟩ : ∃ a, out[j]? = some a := ⟨_, List.getElem?_eq_getElem (by omega)⟩
    have hm := List.mem_of_getElem? ha
    have ih := law_l0 hr hc hl hz d (j + 1) (by omega)
    have e1 : rd_T32 out (j : Int) = a := by
      unfold rd_T32
      rw [Int.toNat_natCast, List.getD_eq_getElem?_getD, ha]
      rfl
    have hw : wrap64 ((j : Int) + 1) = ((j + 1 : Nat) : Int) := by
      rw [w64 (by omega) (by omega)]
      omega
    have hza := hz a hm
    have b1 := hr.bd a hm
    have b2 := hc.bd a hm
    have n1 := hr.n
    have n2 := hc.n
    change 0 ≤ a.f1 ∧ 1 ≤ a.f3 ∧ a.f1 + a.f3 ≤ n at b1
    change 0 ≤ a.f2 ∧ 1 ≤ a.f4 ∧ a.f2 + a.f4 ≤ m at b2
    have w1 : wrap64 (a.f1 + a.f3) = a.f1 + a.f3 := w64 (by omega) (by omega)
    have w2 : wrap64 (a.f2 + a.f4) = a.f2 + a.f4 := w64 (by omega) (by omega)
    refine ev_step ?_
    simp only [parterrelaw18_ResolveAreas.l0]
    rw [e1, hw, w1, w2]
    refine ev_pos (by omega) (ev_pos (by omega) (ev_pos (by omega) (ev_bind (Go.Proofs.Ytaalmkkekbhpnaa.PureRs.good_ev 3 0 a.f0 (by omega)) (ev_ite (fun hg => ?_) (fun _ => ih)))))
    have s1 : Ev (fun k => resolve_Span.f k (lines true n out) 3 0 a.f0 3 0 a.f0) (false, a.f1, a.f1 + a.f3, 0, 0) := ev_cast (span_ev _ _ _ _ _ _ _ (small_lines n1 hl hz) (by rw [lines_len]; omega) (by omega) (by omega)) (span_v hr hm hg)
    have s2 : Ev (fun k => resolve_Span.f k (lines false m out) 3 0 a.f0 3 0 a.f0) (false, a.f2, a.f2 + a.f4, 0, 0) := ev_cast (span_ev _ _ _ _ _ _ _ (small_lines n2 hl hz) (by rw [lines_len]; omega) (by omega) (by omega)) (span_v hc hm hg)
    exact ev_bind s1 (ev_bind s2 (ev_pos rfl (ev_pos rfl (ev_neg (by simp) (ev_neg (by simp) ih)))))
end
end Go.Proofs.Ytaalmkkekbhpnaa.PureRa
namespace Go.Proofs.Ytaalmkkekbhpnaa.Pure
open Go.RowKit Go.Proofs.YtaalmkkekbhpnaaW.PrintWords Go.Proofs.YtaalmkkekbhpnaaW.PrintMore Go.Proofs.Ytaalmkkekbhpnaa.Evs Go.Proofs.Ytaalmkkekbhpnaa.Opn Go.Proofs.Ytaalmkkekbhpnaa.PRa Go.Proofs.Ytaalmkkekbhpnaa.Giv Go.Proofs.Ytaalmkkekbhpnaa.PureRa
open Go.Proofs.Ytaalmkkekbhpnaa.PureTb (Ar tab row Fine nTable)
open Go.Proofs.Ytaalmkkekbhpnaa.PureAr (goodB GoodA AreasA areas_of good_of rects_ev good_ev boxR lat)
theorem ResolveAreas : parterrelaw18_ResolveAreas.Pure := by
  intro l0 g
  refine Ev.rounds ?_
  simp only [parterrelaw18_ResolveAreas.f]
  have triv : Ev (fun k => parterrelaw18_ResolveAreas.j0 k l0 true) true := by
    refine ev_step ?_
    simp only [parterrelaw18_ResolveAreas.j0]
    exact ev_pos (by trivial) (ev_bind Go.Proofs.Ytaalmkkekbhpnaa.PureRs.lives_ev ev_some)
  refine ev_ite (fun _ => triv) (fun _ => ev_bind (good_ev l0) ?_)
  cases hg : goodB l0 with
  | false => exact ev_neg (by decide) triv
  | true =>
    refine ev_pos rfl ?_
    by_cases h0 : l0 = []
    · subst h0
      exact triv
    · have hl := List.length_pos_iff.2 h0
      rw [show (((l0.length : Int) == 0)) = false from beq_false_of_ne (by omega)]
      have hG := good_of hg
      have hA := areas_of hG
      have hr := along_rows hG hA
      have hc := along_cols hG hA h0
      have ho := out_len hG
      have hz : ∀ a ∈ (boxR l0).1, a.f0.size ≤ 64 := fun a ha => area_name hG hA ha
      have n1 := hr.n
      have n2 := hc.n
      have e0 : rd_L1 l0 0 = l0.headD [] := by
        unfold rd_L1
        cases l0 <;> rfl
      have hL : Go.Proofs.Ytaalmkkekbhpnaa.PureRsNm.Light ([] : List (List ByteArray)) := ⟨by simp, by simp⟩
      have t1 := nTable (t := []) (ar := (boxR l0).1) true (n := l0.length) ⟨hL, ho, fun a ha => by have := hz a ha; omega, by omega⟩
      have t2 := nTable (t := []) (ar := (boxR l0).1) false (n := (l0.headD []).length) ⟨hL, ho, fun a ha => by have := hz a ha; omega, by omega⟩
      refine ev_step ?_
      simp only [parterrelaw18_ResolveAreas.j0]
      rw [e0]
      exact ev_neg (by decide) (ev_bind (rects_ev hg) (ev_bind t1 (ev_pos (by omega) (ev_bind t2 (law_l0 hr hc ho hz _ 0 (Nat.zero_add _))))))
end Go.Proofs.Ytaalmkkekbhpnaa.Pure
