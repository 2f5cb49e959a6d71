/- area.boxes: plain laws: which rectangles it tells, and that each has just its name's cells where it says so. Conditions: rows and columns below 1000000. -/
import Derived.Test.YtaalmkkekbhpnaaArMap
set_option linter.unusedVariables false
set_option linter.unusedSimpArgs false
namespace Go.Proofs.Ytaalmkkekbhpnaa.Giv
open Go.RowKit Go.Proofs.YtaalmkkekbhpnaaW.PrintWords Go.Proofs.YtaalmkkekbhpnaaW.PrintLast Go.Proofs.YtaalmkkekbhpnaaW.PrintMore
open Go.Proofs.Ytaalmkkekbhpnaa.Opn Go.Proofs.Ytaalmkkekbhpnaa.PRa
open Go
/-- The cell of a row and a column. -/
def arAt (l0 : List (List ByteArray)) (r c : Nat) : Option ByteArray := (l0[r]?).bind (·[c]?)
theorem ar_row_mem (r0 : Nat) : ∀ (l : List ByteArray) (c0 : Nat) (x : ByteArray × Int × Int), x ∈ area_boxes.row r0 l c0 ↔ ∃ c : Nat, x.2.1 = r0 ∧ x.2.2 = ((c0 + c : Nat) : Int) ∧ l[c]? = some x.1 ∧ x.1.size ≠ 0
  | [], c0, x => by simp [area_boxes.row]
  | s :: l, c0, x => by
    have ih := ar_row_mem r0 l (c0 + 1) x
    have key : (∃ c : Nat, x.2.1 = r0 ∧ x.2.2 = ((c0 + c : Nat) : Int) ∧ (s :: l)[c]? = some x.1 ∧ x.1.size ≠ 0) ↔ ((x.2.1 = r0 ∧ x.2.2 = c0 ∧ s = x.1 ∧ x.1.size ≠ 0) ∨ ∃ c : Nat, x.2.1 = r0 ∧ x.2.2 = ((c0 + 1 + c : Nat) : Int) ∧ l[c]? = some x.1 ∧ x.1.size ≠ 0) := by
      constructor
      · rintro ⟨c, h1, h2, h3, h4⟩
        cases c with
        | zero => exact .inl ⟨h1, by simpa using h2, by simpa using h3, h4⟩
        | succ c => exact .inr ⟨c, h1, by rw [h2]; omega, by simpa using h3, h4⟩
      · rintro (⟨h1, h2, h3, h4⟩ | ⟨c, h1, h2, h3, h4⟩)
        · exact ⟨0, h1, by simpa using h2, by simpa using h3, h4⟩
        · exact ⟨c + 1, h1, by rw [h2]; omega, by simpa using h3, h4⟩
    rw [key, ← ih, show area_boxes.row r0 (s :: l) c0 = if s.size = 0 then area_boxes.row r0 l (c0 + 1) else (s, (r0 : Int), (c0 : Int)) :: area_boxes.row r0 l (c0 + 1) from rfl]
    split
    · rename_i hs
      constructor
      · exact .inr
      · rintro (⟨_, _, rfl, h⟩ | h)
        · exact absurd hs h
        · exact h
    · rename_i hs
      obtain ⟨x1, x2, x3⟩ := x
      simp only [List.mem_cons, Prod.mk.injEq]
      constructor
      · rintro (⟨rfl, rfl, rfl⟩ | h)
        · exact .inl ⟨rfl, rfl, rfl, hs⟩
        · exact .inr h
      · rintro (⟨rfl, rfl, rfl, h⟩ | h)
        · exact .inl ⟨rfl, rfl, rfl⟩
        · exact .inr h
theorem ar_cells_mem : ∀ (l0 : List (List ByteArray)) (r0 : Nat) (x : ByteArray × Int × Int), x ∈ area_boxes.cells l0 r0 ↔ ∃ r c : Nat, x.2.1 = ((r0 + r : Nat) : Int) ∧ x.2.2 = (c : Int) ∧ arAt l0 r c = some x.1 ∧ x.1.size ≠ 0
  | [], r0, x => by simp [area_boxes.cells, arAt]
  | l :: l0, r0, x => by
    have ih := ar_cells_mem l0 (r0 + 1) x
    have hr := ar_row_mem r0 l 0 x
    unfold area_boxes.cells
    rw [List.mem_append, ih, hr]
    constructor
    · rintro (⟨c, h1, h2, h3, h4⟩ | ⟨r, c, h1, h2, h3, h4⟩)
      · exact ⟨0, c, by simpa using h1, by simpa using h2, by simpa [arAt] using h3, h4⟩
      · exact ⟨r + 1, c, by rw [h1]; omega, h2, by simpa [arAt] using h3, h4⟩
    · rintro ⟨r, c, h1, h2, h3, h4⟩
      cases r with
      | zero => exact .inl ⟨c, by simpa using h1, by simpa using h2, by simpa [arAt] using h3, h4⟩
      | succ r => exact .inr ⟨r, c, by rw [h1]; omega, h2, by simpa [arAt] using h3, h4⟩
/-- Ahead of another one, row by row. -/
def arLt (x y : ByteArray × Int × Int) : Prop := x.2.1 < y.2.1 ∨ (x.2.1 = y.2.1 ∧ x.2.2 < y.2.2)
theorem ar_row_sorted (r0 : Nat) : ∀ (l : List ByteArray) (c0 : Nat), (area_boxes.row r0 l c0).Pairwise arLt
  | [], c0 => by simp [area_boxes.row]
  | s :: l, c0 => by
    have ih := ar_row_sorted r0 l (c0 + 1)
    rw [show area_boxes.row r0 (s :: l) c0 = if s.size = 0 then area_boxes.row r0 l (c0 + 1) else (s, (r0 : Int), (c0 : Int)) :: area_boxes.row r0 l (c0 + 1) from rfl]
    split
    · exact ih
    · refine List.pairwise_cons.2 ⟨fun y hy => ?_, ih⟩
      obtain ⟨c, h1, h2, _, _⟩ := (ar_row_mem r0 l (c0 + 1) y).1 hy
      exact .inr ⟨by simp [h1], by simp only [h2]; omega⟩
theorem ar_cells_sorted : ∀ (l0 : List (List ByteArray)) (r0 : Nat), (area_boxes.cells l0 r0).Pairwise arLt
  | [], r0 => by simp [area_boxes.cells]
  | l :: l0, r0 => by
    unfold area_boxes.cells
    refine List.pairwise_append.2 ⟨ar_row_sorted r0 l 0, ar_cells_sorted l0 (r0 + 1), fun x hx y hy => ?_⟩
    obtain ⟨c, h1, h2, _, _⟩ := (ar_row_mem r0 l 0 x).1 hx
    obtain ⟨r, c', h1', h2', _, _⟩ := (ar_cells_mem l0 (r0 + 1) y).1 hy
    exact .inl (by rw [h1, h1']; omega)
theorem ar_at_none (s : ByteArray) : ∀ out : List S32, area_boxes.at_ s out = none ↔ ∀ b ∈ out, b.f0 ≠ s
  | [] => by simp [area_boxes.at_]
  | x :: out => by
    have ih := ar_at_none s out
    unfold area_boxes.at_
    split
    · rename_i h
      simp [h]
    · rename_i h
      rw [Option.map_eq_none_iff, ih]
      simp [h]
/-- A rectangle is just as great as its name's cells need, and so many there are. -/
structure ArBox (pre : List (ByteArray × Int × Int)) (b : S32) (n : Int) : Prop where
  cnt : n = ((pre.filter (fun x => decide (x.1 = b.f0))).length : Nat)
  bd : ∀ x ∈ pre, x.1 = b.f0 → b.f1 ≤ x.2.1 ∧ x.2.1 < b.f1 + b.f3 ∧ b.f2 ≤ x.2.2 ∧ x.2.2 < b.f2 + b.f4
  top : ∃ x ∈ pre, x.1 = b.f0 ∧ x.2.1 = b.f1
  bot : ∃ x ∈ pre, x.1 = b.f0 ∧ x.2.1 = b.f1 + b.f3 - 1
  lef : ∃ x ∈ pre, x.1 = b.f0 ∧ x.2.2 = b.f2
  rig : ∃ x ∈ pre, x.1 = b.f0 ∧ x.2.2 = b.f2 + b.f4 - 1
open Classical in
/-- The first cells of all names. -/
noncomputable def arFirsts (pre : List (ByteArray × Int × Int)) : List ByteArray := pre.foldl (fun (o : List ByteArray) x => if x.1 ∈ o then o else o ++ [x.1]) []
structure ArInv (pre : List (ByteArray × Int × Int)) (out : List S32) (cnt : List Int) : Prop where
  len : out.length = cnt.length
  names : out.map (·.f0) = arFirsts pre
  box : ∀ (k : Nat) (b : S32) (n : Int), out[k]? = some b → cnt[k]? = some n → ArBox pre b n
open Classical in
theorem ar_firsts_snoc (pre) (x : ByteArray × Int × Int) : arFirsts (pre ++ [x]) = if x.1 ∈ arFirsts pre then arFirsts pre else arFirsts pre ++ [x.1] := by
  unfold arFirsts
  rw [List.foldl_append, List.foldl_cons, List.foldl_nil]
theorem ar_firsts_mem (s : ByteArray) : ∀ (n : Nat) (pre : List (ByteArray × Int × Int)), pre.length = n → (s ∈ arFirsts pre ↔ ∃ x ∈ pre, x.1 = s)
  | 0, pre, h => by
    obtain rfl := List.length_eq_zero_iff.1 h
    simp [arFirsts]
  | n + 1, pre, h => by
    obtain ⟨p, x, rfl⟩ : ∃ p x, pre = p ++ [x] := ⟨pre.dropLast, pre.getLast (by intro e; simp [e] at h), (List.dropLast_concat_getLast _).symm⟩
    have ih := ar_firsts_mem s n p (by simpa using h)
    rw [ar_firsts_snoc]
    simp only [List.mem_append, List.mem_singleton, or_and_right, exists_or, exists_eq_left]
    split
    · rename_i hx
      rw [ih]
      constructor
      · exact .inl
      · rintro (h | rfl)
        · exact h
        · exact ih.1 hx
    · simp only [List.mem_append, List.mem_singleton, ih, eq_comm]
theorem ar_firsts_nodup : ∀ (n : Nat) (pre : List (ByteArray × Int × Int)), pre.length = n → (arFirsts pre).Nodup
  | 0, pre, h => by
    obtain rfl := List.length_eq_zero_iff.1 h
    simp [arFirsts]
  | n + 1, pre, h => by
    obtain ⟨p, x, rfl⟩ : ∃ p x, pre = p ++ [x] := ⟨pre.dropLast, pre.getLast (by intro e; simp [e] at h), (List.dropLast_concat_getLast _).symm⟩
    have ih := ar_firsts_nodup n p (by simpa using h)
    rw [ar_firsts_snoc]
    split
    · exact ih
    · rename_i hx
      refine List.nodup_append.2 ⟨ih, by simp, fun a ha b hb => ?_⟩
      simp only [List.mem_singleton] at hb
      subst hb
      exact fun e => hx (e ▸ ha)
def arIn (x : ByteArray × Int × Int) : Prop := 0 ≤ x.2.1 ∧ x.2.1 < 1000000 ∧ 0 ≤ x.2.2 ∧ x.2.2 < 1000000
theorem ar_w (x : Int) (h1 : -9223372036854775808 ≤ x) (h2 : x ≤ 9223372036854775807) : wrap64 x = x := by
  unfold wrap64
  omega
theorem ar_step_inv {pre : List (ByteArray × Int × Int)} {out : List S32} {cnt : List Int} (x : ByteArray × Int × Int) (h : ArInv pre out cnt) (hp : ∀ y ∈ pre, arIn y) (hx : arIn x) (hs : ∀ y ∈ pre, arLt y x) (hl : pre.length < 2000000000000) :
    ArInv (pre ++ [x]) (area_boxes.step x (out, cnt)).1 (area_boxes.step x (out, cnt)).2 := by
  obtain ⟨s, r, c⟩ := x
  have hxr := hx.1
  have hxr2 := hx.2.1
  have hxc := hx.2.2.1
  have hxc2 := hx.2.2.2
  dsimp only at hxr hxr2 hxc hxc2
  have hmem : ∀ s', s' ∈ arFirsts pre ↔ ∃ y ∈ pre, y.1 = s' := fun s' => ar_firsts_mem s' _ pre rfl
  have hold : ∀ b n, ArBox pre b n → b.f0 ≠ s → ArBox (pre ++ [(s, r, c)]) b n := by
    intro b n hb hne
    refine ⟨?_, ?_, ?_, ?_, ?_, ?_⟩
    · rw [hb.cnt, List.filter_append]
      simp [Ne.symm hne]
    · intro y hy hy1
      rcases List.mem_append.1 hy with hy | hy
      · exact hb.bd y hy hy1
      · simp only [List.mem_singleton] at hy
        subst hy
        exact absurd hy1.symm hne
    all_goals
      first
      | (obtain ⟨y, hy, h1, h2⟩ := hb.top; exact ⟨y, List.mem_append_left _ hy, h1, h2⟩)
      | (obtain ⟨y, hy, h1, h2⟩ := hb.bot; exact ⟨y, List.mem_append_left _ hy, h1, h2⟩)
      | (obtain ⟨y, hy, h1, h2⟩ := hb.lef; exact ⟨y, List.mem_append_left _ hy, h1, h2⟩)
      | (obtain ⟨y, hy, h1, h2⟩ := hb.rig; exact ⟨y, List.mem_append_left _ hy, h1, h2⟩)
  unfold area_boxes.step
  cases hat : area_boxes.at_ s out with
  | none =>
    have hno := (ar_at_none s out).1 hat
    have hnf : s ∉ arFirsts pre := by
      rw [← h.names]
      intro hm
      obtain ⟨b, hb, e⟩ := List.mem_map.1 hm
      exact hno b hb e
    have hnp : ∀ y ∈ pre, y.1 ≠ s := fun y hy e => hnf ((hmem s).2 ⟨y, hy, e⟩)
    dsimp only
    refine ⟨by simp [h.len], by rw [ar_firsts_snoc, if_neg hnf]; simp [h.names], fun k b n hb hn => ?_⟩
    rw [List.getElem?_append] at hb hn
    by_cases hk : k < out.length
    · rw [if_pos hk] at hb
      rw [if_pos (by rw [← h.len]; exact hk)] at hn
      exact hold b n (h.box k b n hb hn) (hno b (List.mem_of_getElem? hb))
    · rw [if_neg hk] at hb
      rw [if_neg (by rw [← h.len]; exact hk)] at hn
      have hk0 : k - out.length = 0 := by
        by_cases h0 : k - out.length = 0
        · exact h0
        · rw [List.getElem?_eq_none (by simp; omega)] at hb
          cases hb
      rw [hk0] at hb
      rw [← h.len, hk0] at hn
      simp at hb hn
      subst hb hn
      refine ⟨?_, ?_, ⟨(s, r, c), by simp, rfl, rfl⟩, ⟨(s, r, c), by simp, rfl, ?_⟩, ⟨(s, r, c), by simp, rfl, rfl⟩, ⟨(s, r, c), by simp, rfl, ?_⟩⟩
      · rw [List.filter_append, List.filter_eq_nil_iff.2 (by intro y hy; simp [hnp y hy])]
        simp
      · intro y hy hy1
        rcases List.mem_append.1 hy with hy | hy
        · exact absurd hy1 (hnp y hy)
        · simp only [List.mem_singleton] at hy
          subst hy
          dsimp only
          omega
      · dsimp only; omega
      · dsimp only; omega
  | some k =>
    obtain ⟨b0, hb0, hbs⟩ := ar_at_some s out k hat
    have hsf : s ∈ arFirsts pre := by
      rw [← h.names]
      exact List.mem_map.2 ⟨b0, List.mem_of_getElem? hb0, hbs⟩
    dsimp only
    have hkl : k < out.length := (List.getElem?_eq_some_iff.1 hb0).1
    have hnod : (out.map (·.f0)).Nodup := by rw [h.names]; exact ar_firsts_nodup _ pre rfl
    refine ⟨by simp [h.len], ?_, fun k' b n hb hn => ?_⟩
    · rw [ar_firsts_snoc, if_pos hsf, ← h.names]
      apply List.ext_getElem?
      intro i
      simp only [List.getElem?_map, List.getElem?_modify]
      by_cases hik : k = i
      · subst hik
        rw [hb0]
        simp [area_boxes.wide]
      · simp [hik]
    · rw [List.getElem?_modify] at hb hn
      by_cases hkk : k = k'
      · subst hkk
        obtain ⟨n0, hn0⟩ : ∃ n0, cnt[k]? = some n0 := ⟨_, List.getElem?_eq_getElem (by rw [← h.len]; exact hkl)⟩
        have hB := h.box k b0 n0 hb0 hn0
        rw [hb0] at hb
        rw [hn0] at hn
        simp at hb hn
        subst hb hn
        subst hbs
        obtain ⟨xt, hxt, ht1, ht2⟩ := hB.top
        obtain ⟨xb, hxb, hb1, hb2⟩ := hB.bot
        obtain ⟨xl, hxl, hl1, hl2⟩ := hB.lef
        obtain ⟨xr, hxr', hr1, hr2⟩ := hB.rig
        have it := hp xt hxt
        have ib := hp xb hxb
        have il := hp xl hxl
        have ir := hp xr hxr'
        unfold arIn at it ib il ir
        have hbl := hB.bd xl hxl hl1
        have hfl : (pre.filter (fun x => decide (x.1 = b0.f0))).length ≤ pre.length := List.length_filter_le _ _
        have st := hs xt hxt
        unfold arLt at st
        dsimp only at st
        have e1 : wrap64 (r + 1) = r + 1 := ar_w _ (by omega) (by omega)
        have e2 : wrap64 (r + 1 - b0.f1) = r + 1 - b0.f1 := ar_w _ (by omega) (by omega)
        have e3 : wrap64 (b0.f2 + b0.f4) = b0.f2 + b0.f4 := ar_w _ (by omega) (by omega)
        have e4 : wrap64 (c + 1) = c + 1 := ar_w _ (by omega) (by omega)
        have e5 : wrap64 (max (b0.f2 + b0.f4) (c + 1) - min b0.f2 c) = max (b0.f2 + b0.f4) (c + 1) - min b0.f2 c := ar_w _ (by omega) (by omega)
        have ew : area_boxes.wide b0 r c = ⟨b0.f0, b0.f1, min b0.f2 c, r + 1 - b0.f1, max (b0.f2 + b0.f4) (c + 1) - min b0.f2 c⟩ := by
          unfold area_boxes.wide
          rw [e1, e2, e3, e4, e5]
        rw [ew]
        refine ⟨?_, ?_, ⟨xt, List.mem_append_left _ hxt, ht1, ht2⟩, ⟨(b0.f0, r, c), by simp, rfl, ?_⟩, ?_, ?_⟩
        · rw [hB.cnt, List.filter_append]
          dsimp only
          simp only [List.filter_cons, decide_true, List.filter_nil, if_true, List.length_append, List.length_singleton]
          exact (ar_w _ (by omega) (by omega)).trans (by omega)
        · intro y hy hy1
          dsimp only at hy1 ⊢
          rcases List.mem_append.1 hy with hy | hy
          · have hb := hB.bd y hy hy1
            have sy := hs y hy
            unfold arLt at sy
            dsimp only at sy
            omega
          · simp only [List.mem_singleton] at hy
            subst hy
            dsimp only
            omega
        · dsimp only; omega
        · by_cases hc : b0.f2 ≤ c
          · exact ⟨xl, List.mem_append_left _ hxl, hl1, by dsimp only; omega⟩
          · exact ⟨(b0.f0, r, c), by simp, rfl, by dsimp only; omega⟩
        · by_cases hc : c + 1 ≤ b0.f2 + b0.f4
          · exact ⟨xr, List.mem_append_left _ hxr', hr1, by dsimp only; omega⟩
          · exact ⟨(b0.f0, r, c), by simp, rfl, by dsimp only; omega⟩
      · simp [hkk] at hb hn
        refine hold b n (h.box k' b n hb hn) (fun e => hkk ?_)
        have h1 : (out.map (·.f0))[k]? = some s := by simp [hb0, hbs]
        have h2 : (out.map (·.f0))[k']? = some s := by simp [hb, e]
        exact (List.getElem?_inj (by simpa using hkl) hnod).1 (h1.trans h2.symm)
theorem ar_run_inv : ∀ (n : Nat) (pre : List (ByteArray × Int × Int)), pre.length = n → pre.Pairwise arLt → (∀ y ∈ pre, arIn y) → pre.length < 2000000000000 → ArInv pre (area_boxes.run pre).1 (area_boxes.run pre).2
  | 0, pre, h, _, _, _ => by
    obtain rfl := List.length_eq_zero_iff.1 h
    exact ⟨rfl, rfl, fun k b n hb => by simp [area_boxes.run] at hb⟩
  | n + 1, pre, h, hs, hp, hl => by
    obtain ⟨p, x, rfl⟩ : ∃ p x, pre = p ++ [x] := ⟨pre.dropLast, pre.getLast (by intro e; simp [e] at h), (List.dropLast_concat_getLast _).symm⟩
    obtain ⟨hs1, _, hs2⟩ := List.pairwise_append.1 hs
    have ih := ar_run_inv n p (by simpa using h) hs1 (fun y hy => hp y (List.mem_append_left _ hy)) (by simp at hl; omega)
    have e : area_boxes.run (p ++ [x]) = area_boxes.step x (area_boxes.run p) := by simp [area_boxes.run]
    rw [e]
    exact ar_step_inv x ih (fun y hy => hp y (List.mem_append_left _ hy)) (hp x (by simp)) (fun y hy => hs2 y hy x (by simp)) (by simp at hl; omega)
theorem ar_nodup_le {α : Type} [DecidableEq α] : ∀ (L R : List α), L.Nodup → (∀ x ∈ L, x ∈ R) → L.length ≤ R.length
  | [], _, _, _ => by simp
  | x :: L, R, hn, hs => by
    obtain ⟨h1, h2⟩ := List.nodup_cons.1 hn
    have hx := hs x (List.mem_cons_self ..)
    have ih := ar_nodup_le L (R.erase x) h2 (fun y hy => (List.mem_erase_of_ne (fun (e : y = x) => h1 (e ▸ hy))).2 (hs y (List.mem_cons_of_mem _ hy)))
    rw [List.length_erase_of_mem hx] at ih
    have := List.length_pos_of_mem hx
    simp only [List.length_cons]
    omega
theorem ar_cover {α : Type} [DecidableEq α] {L R : List α} (hn : L.Nodup) (hs : ∀ x ∈ L, x ∈ R) (hl : R.length ≤ L.length) : ∀ x ∈ R, x ∈ L := by
  intro x hx
  apply Classical.byContradiction
  intro hno
  have := ar_nodup_le (x :: L) R (List.nodup_cons.2 ⟨hno, hn⟩) (fun y hy => by
    rcases List.mem_cons.1 hy with rfl | hy
    · exact hx
    · exact hs y hy)
  simp only [List.length_cons] at this
  omega
/-- All places of a rectangle. -/
def arRect (a b : Int) (h w : Nat) : List (Int × Int) := (List.range h).flatMap fun (i : Nat) => (List.range w).map fun (j : Nat) => (a + (i : Int), b + (j : Int))
theorem ar_rect_len (a b : Int) (h w : Nat) : (arRect a b h w).length = h * w := by
  unfold arRect
  induction h with
  | zero => simp
  | succ h ih => rw [List.range_succ, List.flatMap_append, List.length_append, ih]; simp [Nat.succ_mul]
theorem ar_rect_mem (a b : Int) (h w : Nat) (x : Int × Int) : x ∈ arRect a b h w ↔ a ≤ x.1 ∧ x.1 < a + h ∧ b ≤ x.2 ∧ x.2 < b + w := by
  obtain ⟨r, c⟩ := x
  unfold arRect
  simp only [List.mem_flatMap, List.mem_range, List.mem_map, Prod.mk.injEq]
  constructor
  · rintro ⟨i, hi, j, hj, rfl, rfl⟩
    omega
  · rintro ⟨h1, h2, h3, h4⟩
    exact ⟨(r - a).toNat, by omega, (c - b).toNat, by omega, by omega, by omega⟩
theorem ar_rect_nodup (a b : Int) (h w : Nat) : (arRect a b h w).Nodup := by
  unfold arRect
  induction h with
  | zero => simp
  | succ h ih =>
    rw [List.range_succ, List.flatMap_append]
    refine List.nodup_append.2 ⟨ih, ?_, ?_⟩
    · simp only [List.flatMap_cons, List.flatMap_nil, List.append_nil]
      exact List.pairwise_map.2 ((List.nodup_range (n := w)).imp (fun hne e => hne (by simp only [Prod.mk.injEq] at e; omega)))
    · intro x hx y hy e
      subst e
      simp only [List.flatMap_cons, List.flatMap_nil, List.append_nil, List.mem_map, List.mem_flatMap, List.mem_range] at hx hy
      obtain ⟨i, hi, j, hj, rfl⟩ := hx
      obtain ⟨j', hj', e⟩ := hy
      simp only [Prod.mk.injEq] at e
      omega
/-- The places of a name's cells. -/
def arPts (pre : List (ByteArray × Int × Int)) (s : ByteArray) : List (Int × Int) := (pre.filter (fun x => decide (x.1 = s))).map (·.2)
theorem ar_pts_mem (pre : List (ByteArray × Int × Int)) (s : ByteArray) (p : Int × Int) : p ∈ arPts pre s ↔ (s, p.1, p.2) ∈ pre := by
  unfold arPts
  simp only [List.mem_map, List.mem_filter, decide_eq_true_eq]
  constructor
  · rintro ⟨⟨s', q⟩, ⟨h1, h2⟩, rfl⟩
    dsimp only at h2
    subst h2
    exact h1
  · intro h
    exact ⟨_, ⟨h, rfl⟩, rfl⟩
theorem ar_pts_nodup {pre : List (ByteArray × Int × Int)} (h : pre.Pairwise arLt) (s : ByteArray) : (arPts pre s).Nodup := by
  unfold arPts
  refine List.pairwise_map.2 ((h.filter _).imp ?_)
  intro x y hxy e
  unfold arLt at hxy
  rw [e] at hxy
  omega
theorem ar_full_iff : ∀ (out : List S32) (cnt : List Int), area_boxes.full out cnt = true ↔ ∀ (k : Nat) (b : S32) (n : Int), out[k]? = some b → cnt[k]? = some n → wrap64 (b.f3 * b.f4) = n
  | [], cnt => by simp [area_boxes.full]
  | b :: out, [] => by simp [area_boxes.full]
  | b :: out, n :: cnt => by
    have ih := ar_full_iff out cnt
    simp only [area_boxes.full, Bool.and_eq_true, decide_eq_true_eq, ih]
    constructor
    · rintro ⟨h1, h2⟩ k b' n' hb hn
      cases k with
      | zero =>
        simp at hb hn
        subst hb hn
        exact h1
      | succ k => exact h2 k b' n' (by simpa using hb) (by simpa using hn)
    · intro h
      exact ⟨h 0 b n rfl rfl, fun k b' n' hb hn => h (k + 1) b' n' (by simpa using hb) (by simpa using hn)⟩
theorem ar_box_dims {pre : List (ByteArray × Int × Int)} {b : S32} {n : Int} (hB : ArBox pre b n) (hp : ∀ y ∈ pre, arIn y) : 0 ≤ b.f1 ∧ b.f1 < 1000000 ∧ 0 ≤ b.f2 ∧ b.f2 < 1000000 ∧ 1 ≤ b.f3 ∧ b.f1 + b.f3 ≤ 1000000 ∧ 1 ≤ b.f4 ∧ b.f2 + b.f4 ≤ 1000000 := by
  obtain ⟨xt, hxt, ht1, ht2⟩ := hB.top
  obtain ⟨xb, hxb, hb1, hb2⟩ := hB.bot
  obtain ⟨xl, hxl, hl1, hl2⟩ := hB.lef
  obtain ⟨xr, hxr, hr1, hr2⟩ := hB.rig
  have it := hp xt hxt
  have ib := hp xb hxb
  have il := hp xl hxl
  have ir := hp xr hxr
  have jt := hB.bd xt hxt ht1
  unfold arIn at it ib il ir
  omega
theorem ar_prod (a b : Int) (ha : 1 ≤ a) (ha2 : a ≤ 1000000) (hb : 1 ≤ b) (hb2 : b ≤ 1000000) : wrap64 (a * b) = a * b ∧ ((a.toNat * b.toNat : Nat) : Int) = a * b := by
  have h1 : 0 ≤ a * b := Int.mul_nonneg (by omega) (by omega)
  have h2 : a * b ≤ 1000000 * 1000000 := Int.mul_le_mul ha2 hb2 (by omega) (by omega)
  refine ⟨ar_w _ (by omega) (by omega), ?_⟩
  rw [Int.natCast_mul, Int.toNat_of_nonneg (by omega), Int.toNat_of_nonneg (by omega)]
theorem ar_box_full {pre : List (ByteArray × Int × Int)} {b : S32} {n : Int} (hB : ArBox pre b n) (hs : pre.Pairwise arLt) (hp : ∀ y ∈ pre, arIn y) (hf : wrap64 (b.f3 * b.f4) = n) (r c : Int) :
    (b.f0, r, c) ∈ pre ↔ b.f1 ≤ r ∧ r < b.f1 + b.f3 ∧ b.f2 ≤ c ∧ c < b.f2 + b.f4 := by
  obtain ⟨d1, d2, d3, d4, d5, d6, d7, d8⟩ := ar_box_dims hB hp
  obtain ⟨q1, q2⟩ := ar_prod b.f3 b.f4 (by omega) (by omega) (by omega) (by omega)
  constructor
  · intro h
    have := hB.bd _ h rfl
    dsimp only at this
    omega
  · intro h
    have hsub : ∀ p ∈ arPts pre b.f0, p ∈ arRect b.f1 b.f2 b.f3.toNat b.f4.toNat := by
      intro p hp1
      have := hB.bd _ ((ar_pts_mem _ _ _).1 hp1) rfl
      dsimp only at this
      rw [ar_rect_mem]
      omega
    have hlen : (arRect b.f1 b.f2 b.f3.toNat b.f4.toNat).length ≤ (arPts pre b.f0).length := by
      have h1 := hB.cnt
      have h2 : (arPts pre b.f0).length = (pre.filter (fun x => decide (x.1 = b.f0))).length := by simp [arPts]
      rw [ar_rect_len, h2]
      omega
    have := ar_cover (ar_pts_nodup hs b.f0) hsub hlen (r, c) (by rw [ar_rect_mem]; dsimp only; omega)
    exact (ar_pts_mem _ _ _).1 this
theorem ar_box_of_rect {pre : List (ByteArray × Int × Int)} {b : S32} {n : Int} (hB : ArBox pre b n) (hs : pre.Pairwise arLt) (hp : ∀ y ∈ pre, arIn y) (r0 c0 h w : Int) (hr : ∀ r c, (b.f0, r, c) ∈ pre ↔ r0 ≤ r ∧ r < r0 + h ∧ c0 ≤ c ∧ c < c0 + w) :
    b.f1 = r0 ∧ b.f2 = c0 ∧ b.f3 = h ∧ b.f4 = w ∧ wrap64 (b.f3 * b.f4) = n := by
  have hr' : ∀ y ∈ pre, y.1 = b.f0 → r0 ≤ y.2.1 ∧ y.2.1 < r0 + h ∧ c0 ≤ y.2.2 ∧ y.2.2 < c0 + w := by
    rintro ⟨s, r, c⟩ hy rfl
    exact (hr r c).1 hy
  obtain ⟨xt, hxt, ht1, ht2⟩ := hB.top
  obtain ⟨xb, hxb, hb1, hb2⟩ := hB.bot
  obtain ⟨xl, hxl, hl1, hl2⟩ := hB.lef
  obtain ⟨xr, hxr, hr1, hr2⟩ := hB.rig
  have jt := hr' xt hxt ht1
  have jb := hr' xb hxb hb1
  have jl := hr' xl hxl hl1
  have jr := hr' xr hxr hr1
  have k0 := hB.bd _ ((hr r0 c0).2 (by omega)) rfl
  have k1 := hB.bd _ ((hr (r0 + h - 1) (c0 + w - 1)).2 (by omega)) rfl
  dsimp only at k0 k1
  have e1 : b.f1 = r0 := by omega
  have e2 : b.f2 = c0 := by omega
  have e3 : b.f3 = h := by omega
  have e4 : b.f4 = w := by omega
  refine ⟨e1, e2, e3, e4, ?_⟩
  obtain ⟨d1, d2, d3, d4, d5, d6, d7, d8⟩ := ar_box_dims hB hp
  obtain ⟨q1, q2⟩ := ar_prod b.f3 b.f4 (by omega) (by omega) (by omega) (by omega)
  have h2 : (arPts pre b.f0).length = (pre.filter (fun x => decide (x.1 = b.f0))).length := by simp [arPts]
  have h3 : (arPts pre b.f0).length ≤ b.f3.toNat * b.f4.toNat := by
    rw [← ar_rect_len b.f1 b.f2]
    refine ar_nodup_le _ _ (ar_pts_nodup hs _) (fun p hp1 => ?_)
    have := hB.bd _ ((ar_pts_mem _ _ _).1 hp1) rfl
    dsimp only at this
    rw [ar_rect_mem]
    omega
  have h4 : b.f3.toNat * b.f4.toNat ≤ (arPts pre b.f0).length := by
    rw [← ar_rect_len b.f1 b.f2]
    refine ar_nodup_le _ _ (ar_rect_nodup _ _ _ _) (fun p hp1 => ?_)
    rw [ar_rect_mem] at hp1
    rw [ar_pts_mem, hr]
    omega
  rw [q1, hB.cnt]
  omega
end Go.Proofs.Ytaalmkkekbhpnaa.Giv
