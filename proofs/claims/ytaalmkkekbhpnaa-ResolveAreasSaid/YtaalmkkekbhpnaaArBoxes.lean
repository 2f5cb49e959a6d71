/- area.boxes: its contract: the loop over area.each by the law of loops over functions, its map, its two lists; then the loop that compares. -/
import Derived.Test.YtaalmkkekbhpnaaPRax4
import Derived.Test.YtaalmkkekbhpnaaOpen
import Derived.Test.YtaalmkkekbhpnaaWTab
import Derived.Test.YtaalmkkekbhpnaaArMap
import Derived.Test.YtaalmkkekbhpnaaStIn
import Derived.RangeFuncBox
import Derived.Maps.OwnIn
import Derived.Maps.AppendAt
set_option linter.unusedVariables false
set_option linter.unusedSimpArgs false
namespace Go.Proofs.Ytaalmkkekbhpnaa.Giv
open Go.RowKit Go.Shelf Go.Proofs.YtaalmkkekbhpnaaW.PrintWords Go.Proofs.YtaalmkkekbhpnaaW.PrintLast Go.Proofs.YtaalmkkekbhpnaaW.PrintMore
open Go.Proofs.Ytaalmkkekbhpnaa.Opn Go.Proofs.Ytaalmkkekbhpnaa.PRa Go.Proofs.Ytaalmkkekbhpnaa.StI
def ArCell.list (pre : List ArCell) : List (ByteArray × Int × Int) := pre.map (·.1)
def ArEnc (b : S32) : List Value := [.string b.f0, .int .i64 b.f1, .int .i64 b.f2, .int .i64 b.f3, .int .i64 b.f4]
/-- What lies between two rounds: the map, the list of rectangles, how many cells each has. -/
def ArI (s n0 : Nat) (pre : List ArCell) (W : World) : Prop :=
  Boxed W (s + 1) 59 (.map (some s)) ∧
  (∃ D, W.ownsMap Try.prog 9 (plainElem (H := Unit) Try.prog 3) s (area_boxes.run (ArCell.list pre)).1.length D ∧ ArTells D (area_boxes.run (ArCell.list pre)).1) ∧
  (∃ v, Boxed W (s + 1 + 1) 23 v ∧ W.ownsRow s 32 5 v (area_boxes.run (ArCell.list pre)).1.length ((area_boxes.run (ArCell.list pre)).1.flatMap ArEnc) ∧ True) ∧
  (∃ u, Boxed W (s + 1 + 1 + 1) 57 u ∧ W.ownsRow s 3 1 u (area_boxes.run (ArCell.list pre)).2.length ((area_boxes.run (ArCell.list pre)).2.map (Value.int .i64)) ∧ True)
theorem ArI.own (s n0 : Nat) (hs : s + 1 + 1 + 1 < n0) : OwnFrom n0 (ArI s n0) := by
  intro pre A B row h hg hr
  obtain ⟨h1, ⟨D, h2, h3⟩, h4, h5⟩ := h
  have hr2 : ∀ r, row = some r → ∃ o : Obj, A.heap[r]? = some o ∧ o.isCells = false := fun r e => (hr r e).2
  refine ⟨boxed_own (s + 1) _ (fun _ : Unit => .map (some s)) () A B row h1 hg hr2, ⟨D, h2.kept hg (fun e => by have := (hr _ e.symm).1; omega), h3⟩, ?_, ?_⟩
  · exact holdsRow_own s (s + 1 + 1) _ _ 5 (fun pre => (area_boxes.run (ArCell.list pre)).1.length) (fun pre => (area_boxes.run (ArCell.list pre)).1.flatMap ArEnc) (fun _ _ => True) pre A B row h4 hg hr2
  · exact holdsRow_own s (s + 1 + 1 + 1) _ _ 1 (fun pre => (area_boxes.run (ArCell.list pre)).2.length) (fun pre => (area_boxes.run (ArCell.list pre)).2.map (Value.int .i64)) (fun _ _ => True) pre A B row h5 hg hr2
theorem ar_five (W : World) (t : TypeId) (a b c d e : Value) : ∀ (j : Nat) u, [a, b, c, d, e][j]? = some u → (W.alloc (.cells #[a, b, c, d, e] t)).cell? ((⟨W.heap.size, 0, none⟩ : Addr).add j) = some u := by
  intro j u hu
  have h := World.alloc_heap_new W (.cells #[a, b, c, d, e] t)
  have hc : ∀ i, (W.alloc (.cells #[a, b, c, d, e] t)).cell? ⟨W.heap.size, i, none⟩ = #[a, b, c, d, e][i]? := fun i => blk_cell h i
  rcases j with _ | _ | _ | _ | _ | j <;> simp at hu <;> subst hu
  · exact (hc 0).trans rfl
  · exact (hc 1).trans rfl
  · exact (hc 2).trans rfl
  · exact (hc 3).trans rfl
  · exact (hc 4).trans rfl
theorem map_apart {W : World} {P : Program} {kt : TypeId} {R : Value → Option (DataW Unit × List MemPlace)} {b n : Nat} {D : DataW Unit} {base size k e : Nat} {v : Value} {xs : List Value} (h : W.ownsMap P kt R b n D) (h' : W.ownsRow base e size v k xs) : some b ≠ v.ownBlock := by
  rcases h'.2 with ⟨rfl, _⟩ | ⟨g, cap, cur, rfl, _, hg, _⟩
  · simp [Value.ownBlock]
  · intro e1
    simp only [Value.ownBlock, Option.some.injEq] at e1
    subst e1
    obtain ⟨es, ck, hh, _⟩ := h
    rw [hh] at hg
    cases hg
theorem flat_at : ∀ (out : List S32) (k i : Nat), i < 5 → ∀ {b}, out[k]? = some b → (out.flatMap ArEnc)[k * 5 + i]? = (ArEnc b)[i]?
  | [], k, i, hi, b, h => by simp at h
  | x :: out, 0, i, hi, b, h => by
    simp at h
    subst h
    rw [List.flatMap_cons, List.getElem?_append_left (by simp [ArEnc]; omega)]
    simp
  | x :: out, k + 1, i, hi, b, h => by
    rw [List.flatMap_cons, List.getElem?_append_right (by simp [ArEnc]; omega)]
    have := flat_at out k i hi (b := b) (by simpa using h)
    rw [← this]
    congr 1
    simp [ArEnc]
    omega
theorem ar_reps (w : World) (base : Nat) (ok : Nat → Prop) : ∀ out : List S32, Reps (k32.M w base ok) 5 out (out.flatMap ArEnc)
  | [] => Reps.none _ _
  | b :: out => Reps.front (k32_mkM w base ok b) rfl (ar_reps w base ok out) rfl
theorem ar_R {w : World} {base : Nat} {v : Value} {out : List S32} (h : w.ownsRow base 32 5 v out.length (out.flatMap ArEnc)) : Kd.R k32 32 w base (fun _ => True) v out :=
  ⟨fun _ _ => trivial, _, h, ar_reps w base _ out⟩
theorem modify_set {α : Type} {l : List α} {k : Nat} {b : α} {f : α → α} (h : l[k]? = some b) : l.modify k f = l.set k (f b) := by
  apply List.ext_getElem?
  intro i
  rw [List.getElem?_modify, List.getElem?_set]
  by_cases hk : k = i
  · subst hk
    obtain ⟨hl, he⟩ := List.getElem?_eq_some_iff.1 h
    simp [hl, he]
  · simp [hk]
theorem names_set {l : List S32} {k : Nat} {b b' : S32} (h : l[k]? = some b) (e : b'.f0 = b.f0) : (l.set k b').map (·.f0) = l.map (·.f0) := by
  apply List.ext_getElem?
  intro i
  rw [List.getElem?_map, List.getElem?_map, List.getElem?_set]
  by_cases hk : k = i
  · subst hk
    obtain ⟨hl, he⟩ := List.getElem?_eq_some_iff.1 h
    simp [hl, he, e]
  · simp [hk]
theorem addr_add (b o n : Nat) : (⟨b, o, none⟩ : Addr).add n = ⟨b, o + n, none⟩ := by
  unfold Addr.add
  split <;> simp_all
theorem cell_one_at (w : World) (x : Value) (t n : Nat) (hn : n = w.heap.size) : ∀ (j : Nat) u, [x][j]? = some u → (w.alloc (.cells #[x] t)).cell? ((⟨n, 0, none⟩ : Addr).add j) = some u := by
  subst hn
  exact cell_one_new w x t
theorem rows_apart {W : World} {base size k e base' size' k' e' : Nat} {v v' : Value} {xs xs' : List Value} (hne : e ≠ e') (h : W.ownsRow base e size v k xs) (h' : W.ownsRow base' e' size' v' k' xs') : v.ownBlock = none ∨ v.ownBlock ≠ v'.ownBlock := by
  rcases h.2 with ⟨rfl, _⟩ | ⟨g, cap, cur, rfl, _, hg, _⟩
  · exact .inl rfl
  · refine .inr fun e1 => ?_
    rcases h'.2 with ⟨rfl, _⟩ | ⟨g', cap', cur', rfl, _, hg', _⟩
    · simp [Value.ownBlock] at e1
    · simp only [Value.ownBlock, Option.some.injEq] at e1
      subst e1
      rw [hg] at hg'
      simp at hg'
      exact hne hg'.2
theorem ar_step_len (x : ByteArray × Int × Int) (o : List S32 × List Int) (h : o.1.length = o.2.length) : (area_boxes.step x o).1.length = (area_boxes.step x o).2.length ∧ (area_boxes.step x o).1.length ≤ o.1.length + 1 := by
  unfold area_boxes.step
  split <;> simp [h]
theorem ar_run_snoc (l : List (ByteArray × Int × Int)) (x : ByteArray × Int × Int) : area_boxes.run (l ++ [x]) = area_boxes.step x (area_boxes.run l) := by simp [area_boxes.run]
theorem ar_run_len : ∀ (n : Nat) (l : List (ByteArray × Int × Int)), l.length = n → (area_boxes.run l).1.length = (area_boxes.run l).2.length ∧ (area_boxes.run l).1.length ≤ l.length
  | 0, l, h => by
    obtain rfl := List.length_eq_zero_iff.1 h
    simp [area_boxes.run]
  | n + 1, l, h => by
    obtain ⟨p, x, rfl⟩ : ∃ p x, l = p ++ [x] := ⟨l.dropLast, l.getLast (by intro e; simp [e] at h), (List.dropLast_concat_getLast _).symm⟩
    obtain ⟨h1, h2⟩ := ar_run_len n p (by simpa using h)
    obtain ⟨h3, h4⟩ := ar_step_len x (area_boxes.run p) h1
    rw [ar_run_snoc]
    refine ⟨h3, ?_⟩
    simp only [List.length_append, List.length_singleton]
    omega
theorem ar_list_snoc (pre : List ArCell) (x : ArCell) : ArCell.list (pre ++ [x]) = ArCell.list pre ++ [x.1] := by simp [ArCell.list]
theorem ar_infoI : (Try.prog.info? 3).map (fun i => (i.zero, i.size, i.bytes)) = some (some (.int .i64 0), 1, 8) := by kernel_rfl
theorem ar_info : (Try.prog.info? 32).map (fun i => (i.zero, i.size, i.bytes)) = some (some (.agg #[.string ⟨#[]⟩, .int .i64 0, .int .i64 0, .int .i64 0, .int .i64 0]), 5, 48) := by kernel_rfl
/-- What a round with an old name keeps: the map, the list, the counts, the cell's own box. -/
structure ArSt (s Bx B gv vc gu cu : Nat) (x : ByteArray × Int × Int) (D : DataW Unit) (W : World) (out : List S32) (cnt : List Int) (W' : World) : Prop where
  mb : Boxed W' (s + 1) 59 (.map (some s))
  om : W'.ownsMap Try.prog 9 (plainElem (H := Unit) Try.prog 3) s out.length D
  vb : Boxed W' (s + 1 + 1) 23 (.slice (some ⟨gv, 0, none⟩) out.length vc)
  vr : W'.ownsRow s 32 5 (.slice (some ⟨gv, 0, none⟩) out.length vc) out.length (out.flatMap ArEnc)
  ub : Boxed W' (s + 1 + 1 + 1) 57 (.slice (some ⟨gu, 0, none⟩) cnt.length cu)
  ur : W'.ownsRow s 3 1 (.slice (some ⟨gu, 0, none⟩) cnt.length cu) cnt.length (cnt.map (Value.int .i64))
  bx : W'.heap[Bx]? = some (.cells #[.string x.1, .int .i64 x.2.1, .int .i64 x.2.2, .int .i64 1, .int .i64 1] 32 (0, 0))
  bv : some Bx ≠ (Value.slice (some ⟨gv, 0, none⟩) out.length vc).ownBlock
  kf : KeepsFrom B W W'
  bl : Below s W W'
section
variable {s Bx B gv vc gu cu : Nat} {x : ByteArray × Int × Int} {D : DataW Unit} {W W' : World} {out : List S32} {cnt : List Int}
theorem ArSt.drew (h : ArSt s Bx B gv vc gu cu x D W out cnt W') : ArSt s Bx B gv vc gu cu x D W out cnt W'.drew :=
  ⟨h.mb, h.om, h.vb, h.vr, h.ub, h.ur, h.bx, h.bv, h.kf.trans ((KeepsOthers.drew W').from B), h.bl.trans ((Below.refl s W').drew)⟩
theorem ArSt.stV {out' : List S32} (h : ArSt s Bx B gv vc gu cu x D W out cnt W') (j : Nat) (u : Value) (he : out'.flatMap ArEnc = (out.flatMap ArEnc).set j u) (hl : out'.length = out.length) : ArSt s Bx B gv vc gu cu x D W out' cnt (W'.setCell ⟨gv, j, none⟩ u) := by
  obtain ⟨hr, hg⟩ := h.vr.stored j u
  have hlt := h.vr.lt gv rfl
  have hb := h.bv
  simp only [Value.ownBlock] at hb
  refine ⟨h.mb.kept hg (h.mb.not_row (by decide) h.vr), ?_, ?_, ?_, h.ub.kept hg (h.ub.not_row (by decide) h.vr), h.ur.kept hg (rows_apart (by decide) h.ur h.vr), (hg.block Bx (Array.getElem?_eq_some_iff.1 h.bx).1 hb).trans h.bx, by rw [hl]; exact h.bv, ?_, ?_⟩
  · rw [hl]
    exact h.om.kept hg (map_apart h.om h.vr)
  · rw [hl]
    exact h.vb.kept hg (h.vb.not_row (by decide) h.vr)
  · rw [hl, he]
    exact hr
  · exact h.kf.trans ((KeepsOthers.setCell W' _ u).from B)
  · exact h.bl.setCell (p := ⟨gv, j, none⟩) hlt.1 u
theorem ArSt.stU (h : ArSt s Bx B gv vc gu cu x D W out cnt W') (hx : some Bx ≠ some gu) (j : Nat) (n : Int) : ArSt s Bx B gv vc gu cu x D W out (cnt.set j n) (W'.setCell ⟨gu, j, none⟩ (.int .i64 n)) := by
  obtain ⟨hr, hg⟩ := h.ur.stored j (.int .i64 n)
  have hlt := h.ur.lt gu rfl
  refine ⟨h.mb.kept hg (h.mb.not_row (by decide) h.ur), h.om.kept hg (map_apart h.om h.ur), h.vb.kept hg (h.vb.not_row (by decide) h.ur), h.vr.kept hg (rows_apart (by decide) h.vr h.ur), ?_, ?_, (hg.block Bx (Array.getElem?_eq_some_iff.1 h.bx).1 hx).trans h.bx, h.bv, ?_, ?_⟩
  · rw [List.length_set]
    exact h.ub.kept hg (h.ub.not_row (by decide) h.ur)
  · rw [List.length_set, List.map_set]
    exact hr
  · exact h.kf.trans ((KeepsOthers.setCell W' _ _).from B)
  · exact h.bl.setCell (p := ⟨gu, j, none⟩) hlt.1 _
theorem ArSt.cellV (h : ArSt s Bx B gv vc gu cu x D W out cnt W') {k i : Nat} {b : S32} {u : Value} (hb : out[k]? = some b) (hi : i < 5) (hu : (ArEnc b)[i]? = some u) : W'.cell? ⟨gv, k * 5 + i, none⟩ = some u := by
  have hk := (List.getElem?_eq_some_iff.1 hb).1
  exact ((h.vr.cellAt (k * 5 + i) (by omega)).trans (flat_at out k i hi hb)).trans hu
theorem ArSt.cellU (h : ArSt s Bx B gv vc gu cu x D W out cnt W') {k : Nat} {n : Int} (hb : cnt[k]? = some n) : W'.cell? ⟨gu, k, none⟩ = some (.int .i64 n) := by
  have hk := (List.getElem?_eq_some_iff.1 hb).1
  exact (h.ur.cellAt k (by omega)).trans (by simp [hb])
end
theorem flat_set {u : Value} {b' : S32} : ∀ (out : List S32) (k i : Nat), i < 5 → ∀ {b}, out[k]? = some b → ArEnc b' = (ArEnc b).set i u → (out.set k b').flatMap ArEnc = (out.flatMap ArEnc).set (k * 5 + i) u
  | [], k, i, hi, b, h, _ => by simp at h
  | y :: out, 0, i, hi, b, h, e => by
    simp at h
    subst h
    rw [List.set_cons_zero, List.flatMap_cons, List.flatMap_cons, List.set_append_left _ _ (by simp [ArEnc]; omega), e]
    simp
  | y :: out, k + 1, i, hi, b, h, e => by
    rw [List.set_cons_succ, List.flatMap_cons, List.flatMap_cons, List.set_append_right _ _ (by simp [ArEnc]; omega)]
    have := flat_set out k i hi (b := b) (by simpa using h) e
    rw [this]
    congr 2
    simp [ArEnc]
    omega
theorem ar_cells_sub (l0 : List (List ByteArray)) (h : ∀ l ∈ l0, ∀ s ∈ l, s.size ≤ maxLen) : ∃ xs : List ArCell, xs.map (·.1) = area_boxes.cells l0 0 := by
  have hrow : ∀ (r : Nat) (l : List ByteArray) (c : Nat), (∀ s ∈ l, s.size ≤ maxLen) → ∃ xs : List ArCell, xs.map (·.1) = area_boxes.row r l c := by
    intro r l
    induction l with
    | nil => exact fun _ _ => ⟨[], rfl⟩
    | cons s l ih =>
      intro c hl
      obtain ⟨xs, hx⟩ := ih (c + 1) (fun t ht => hl t (List.mem_cons_of_mem _ ht))
      unfold area_boxes.row
      split
      · exact ⟨xs, hx⟩
      · exact ⟨⟨(s, (r : Int), (c : Int)), hl s (List.mem_cons_self ..)⟩ :: xs, by simp [hx]⟩
  have hall : ∀ (l0 : List (List ByteArray)) (r : Nat), (∀ l ∈ l0, ∀ s ∈ l, s.size ≤ maxLen) → ∃ xs : List ArCell, xs.map (·.1) = area_boxes.cells l0 r := by
    intro l0
    induction l0 with
    | nil => exact fun _ _ => ⟨[], rfl⟩
    | cons l l0 ih =>
      intro r hl
      obtain ⟨xs, hx⟩ := hrow r l 0 (hl l (List.mem_cons_self ..))
      obtain ⟨ys, hy⟩ := ih (r + 1) (fun t ht => hl t (List.mem_cons_of_mem _ ht))
      exact ⟨xs ++ ys, by simp [area_boxes.cells, hx, hy]⟩
  exact hall l0 0 h
attribute [local go_sem] Oper.semAt_some
set_option maxRecDepth 100000 in
set_option maxHeartbeats 4000000 in
theorem area_boxes.calls (k : Nat) (A0 : Option Addr) (c0 : Nat) (l0 : List (List ByteArray)) (r1 : List S32) (r2 : Bool) (w : World) (hr0 : Kd.C (Kd.slice 9 Kd.string) w A0 l0.length l0) (hc0 : l0.length ≤ c0) (h : area_boxes.f k l0 = some (r1, r2)) :
    Calls Try.prog 19 #[.slice A0 l0.length c0] w fun e w' => ∃ v0_ : Value, e = .returned (.tuple #[v0_, .bool r2]) ∧ Kd.R k32 32 w' w.heap.size (fun _ => True) v0_ r1 ∧ Below w.heap.size w w' := by
  unfold area_boxes.f at h
  split at h
  case isFalse => cases h
  rename_i hcond
  obtain ⟨hcn, hL, hLL⟩ := hcond
  obtain ⟨xs, hxs⟩ := ar_cells_sub l0 (fun l hl s hs => by have := (hLL l hl).2 s hs; unfold maxLen; omega)
  have hL2 : ∀ l ∈ l0, l.length < 1000000 := fun l hl => (hLL l hl).1
  refine (callsIn_wide (n := 6)).1 ?_
  have hmm := @run_makeMap Try.prog
  refine callsIn_of_wp_marks Try.func19 rfl trivial ?_ rfl
  simp only [Try.ntmps19, List.size_toArray, List.length_cons, List.length_nil, Nat.reduceAdd, Nat.reduceSub, Array.replicate_succ, Array.replicate_zero, List.push_toArray, List.append_toArray, List.nil_append, List.cons_append]
  gi_wp2_with (refine ⟨trivial, ?_⟩; gi_at_call 28; refine (ar_each_in _ _ trivial rfl _ _ _ _).mono ?_; rintro e w' ⟨rfl, rfl⟩)
  have b1 := (((Boxed.new (w.alloc (.map #[] 0)) 59 (.map (some w.heap.size))).alloc (.cells #[.slice none 0 0] 23)).alloc (.cells #[.slice none 0 0] 57)).alloc (.cells #[.slice A0 l0.length c0] 22)
  have b2 := ((Boxed.new ((w.alloc (.map #[] 0)).alloc (.cells #[.map (some w.heap.size)] 59)) 23 (.slice none 0 0)).alloc (.cells #[.slice none 0 0] 57)).alloc (.cells #[.slice A0 l0.length c0] 22)
  have b3 := (Boxed.new (((w.alloc (.map #[] 0)).alloc (.cells #[.map (some w.heap.size)] 59)).alloc (.cells #[.slice none 0 0] 23)) 57 (.slice none 0 0)).alloc (.cells #[.slice A0 l0.length c0] 22)
  have b4 := Boxed.new ((((w.alloc (.map #[] 0)).alloc (.cells #[.map (some w.heap.size)] 59)).alloc (.cells #[.slice none 0 0] 23)).alloc (.cells #[.slice none 0 0] 57)) 22 (.slice A0 l0.length c0)
  simp only [World.size_alloc] at b1 b2 b3 b4
  have hm0 := ((((World.ownsMap_made w Try.prog 9 (plainElem (H := Unit) Try.prog 3)).alloc (.cells #[.map (some w.heap.size)] 59)).alloc (.cells #[.slice none 0 0] 23)).alloc (.cells #[.slice none 0 0] 57)).alloc (.cells #[.slice A0 l0.length c0] 22)
  have hB0 := (((((Below.refl w.heap.size w).alloc (Nat.le_refl _) (.map #[] 0)).alloc (by simp) (.cells #[.map (some w.heap.size)] 59)).alloc (by simp; omega) (.cells #[.slice none 0 0] 23)).alloc (by simp; omega) (.cells #[.slice none 0 0] 57)).alloc (by simp; omega) (.cells #[.slice A0 l0.length c0] 22)
  have hI0 : ArI w.heap.size 0 [] _ := ⟨b1, ⟨_, hm0, ArTells.nil⟩, ⟨_, b2, World.ownsRow_nil _ _ _ _, trivial⟩, ⟨_, b3, World.ownsRow_nil _ _ _ _, trivial⟩⟩
  obtain ⟨W0, hW0⟩ : ∃ W0, (((((w.alloc (.map #[] 0)).alloc (.cells #[.map (some w.heap.size)] 59)).alloc (.cells #[.slice none 0 0] 23)).alloc (.cells #[.slice none 0 0] 57)).alloc (.cells #[.slice A0 l0.length c0] 22)) = W0 := ⟨_, rfl⟩
  have hsz : W0.heap.size = w.heap.size + 5 := by rw [← hW0]; simp
  rw [hW0] at b1 b2 b3 b4 hm0 hB0 hI0 ⊢
  refine wpIn_rangeFunc_ownH rfl (by omega) (gf := 33) (lb := #[.pointer (some ⟨w.heap.size + 1 + 1 + 1 + 1, 0, none⟩)]) rfl trivial (enters_of Try.func33 (by kernel_rfl) rfl)
    (ar_each_stops _ _ trivial rfl (by omega) (w.heap.size + 1 + 1 + 1 + 1) A0 c0 l0 w hr0 hc0 hL hL2 xs hxs W0 (by omega) hB0 b4.cell)
    belowK_t (belowK_b (by omega)) (Below.refl _ _) (fun _ => rfl)
    (fun pre W => ArI w.heap.size W0.heap.size pre W ∧ Below w.heap.size w W)
    (fun _ _ _ => False)
    (OwnFrom.and (ArI.own _ _ (by omega)) (ownFrom_below (Nat.le_refl _) (by omega)))
    (fun _ _ _ _ _ hs _ _ => hs)
    ⟨hI0, hB0⟩
    (fun x a' W => ∃ Bx, w.heap.size + 1 + 1 + 1 < Bx ∧ W.heap[Bx]? = some (.cells #[.string x.1.1, .int .i64 x.1.2.1, .int .i64 x.1.2.2, .int .i64 1, .int .i64 1] 32 (0, 0)) ∧ (∀ v, Boxed W (w.heap.size + 1 + 1) 23 v → some Bx ≠ v.ownBlock) ∧ a' = { tmps := #[.slice A0 l0.length c0, undef, .slice none 0 0, .bool false, .pointer (some ⟨w.heap.size + 1, 0, none⟩), .pointer (some ⟨w.heap.size + 1 + 1, 0, none⟩), .pointer (some ⟨w.heap.size + 1 + 1 + 1, 0, none⟩), .pointer (some ⟨Bx, 0, none⟩), .string x.1.1, undef, undef, undef, undef, undef, undef, .map (some w.heap.size), .slice A0 l0.length c0, .func (.func 33) #[] #[.pointer (some ⟨w.heap.size + 1 + 1 + 1 + 1, 0, none⟩)], .agg #[.string x.1.1, .int .i64 x.1.2.1, .int .i64 x.1.2.2, .int .i64 1, .int .i64 1], .string x.1.1, undef, undef, undef, undef, undef, undef, undef, undef, undef, undef, undef, undef, undef, undef, undef, undef, undef, undef, undef, undef, undef, undef, undef, undef, undef, undef, undef, undef, undef, undef, undef, undef, undef, undef, undef, undef, undef, undef, undef, undef, undef, undef, undef, undef, undef, undef, undef, undef, undef, undef, undef, undef, undef, undef, undef, undef, undef, undef, undef, undef, undef, undef, undef, undef, undef, undef, undef, undef, undef, undef, undef, undef, undef, undef, undef, undef, undef, undef, undef, undef, undef, undef, undef, undef, undef, undef, undef], defers := [] }) ?hAx ?assign ?body ?done ?stop
  case hAx =>
    rintro x a' _ A B row ⟨Bx, hb, hc, hv, ha⟩ hg hr
    refine ⟨Bx, hb, ?_, fun v hv' => hv v ?_, ha⟩
    · refine (hg.block Bx (Array.getElem?_eq_some_iff.1 hc).1 (fun e => ?_)).trans hc
      obtain ⟨o, ho, hoc⟩ := (hr Bx e.symm).2
      rw [hc] at ho
      cases ho
      cases hoc
    · have hlt : w.heap.size + 1 + 1 < A.heap.size := by
        have := (Array.getElem?_eq_some_iff.1 hc).1
        omega
      exact ((hg.block _ hlt (fun e => by have := (hr _ e.symm).1; omega)).symm.trans hv')
  case assign =>
    rintro l pre x W K ⟨hi, hb⟩ hK
    simp only [ArCell.enc]
    gi_wp2
    have hi2 := hi
    obtain ⟨_, _, ⟨v0, hv0, ho0, _⟩, ⟨u0, hu0, _⟩⟩ := hi2
    refine hK _ _ ((KeepsOthers.alloc _ _).from _) ((Below.refl w.heap.size W).alloc hb.size _) ⟨(ArI.own _ _ (by omega)).alloc _ hi, hb.alloc hb.size _⟩ ⟨W.heap.size, hu0.lt, World.alloc_heap_new W _, fun v hv => ?_, rfl⟩
    have hv2 : Boxed W (w.heap.size + 1 + 1) 23 v := (Below.heap_alloc W _ _ hv0.lt).symm.trans hv
    obtain rfl : v0 = v := by
      have := (show W.heap[_]? = _ from hv0).symm.trans hv2
      simpa using this
    rcases ho0.2 with ⟨rfl, _⟩ | ⟨g, cap, cur, rfl, _, hgb, _⟩
    · simp [Value.ownBlock]
    · intro e
      obtain rfl : W.heap.size = g := by simpa [Value.ownBlock] using e
      have := (Array.getElem?_eq_some_iff.1 hgb).1
      omega
  case body =>
    rintro l pre x a' W hl ⟨rl, hrl⟩ ⟨hi, hb⟩ ⟨Bx, hBx, hbx, hbv, rfl⟩ hlt
    obtain ⟨hmb, ⟨D, hown, hT⟩, ⟨v, hv, hrow, _⟩, ⟨u, hu, hcnt, _⟩⟩ := hi
    have hkey : keyOf Try.prog 9 (.string x.1.1) = some (arKey x.1.1) := WideMaps.keyOf_string_mk Try.underlying9 x.2
    have hcm := hmb.cell
    have hcv := hv.cell
    have hcu := hu.cell
    obtain ⟨out, hout⟩ : ∃ out, (area_boxes.run (ArCell.list pre)).1 = out := ⟨_, rfl⟩
    obtain ⟨cnt, hcn2⟩ : ∃ cnt, (area_boxes.run (ArCell.list pre)).2 = cnt := ⟨_, rfl⟩
    rw [hout] at hown hT hrow
    rw [hcn2] at hcnt
    obtain ⟨vp, vc, rfl⟩ : ∃ p c, v = .slice p out.length c := by
      rcases hrow.2 with ⟨hv0, hn⟩ | ⟨g, cap, cur, hv0, _⟩
      · exact ⟨none, 0, by rw [hv0, hn]⟩
      · exact ⟨_, _, hv0⟩
    have hnm2 : u.ownBlock = none ∨ u.ownBlock ≠ some w.heap.size := by
      rcases hcnt.2 with ⟨hv0, hn⟩ | ⟨g, cap, cur, hv0, _, hgb, _⟩
      · exact .inl (by rw [hv0]; rfl)
      · refine .inr ?_
        rw [hv0]
        intro e
        obtain rfl : g = w.heap.size := by simpa [Value.ownBlock] using e
        obtain ⟨es, ck, hh, _⟩ := hown
        rw [hh] at hgb
        cases hgb
    have hnm : (Value.slice vp out.length vc).ownBlock = none ∨ (Value.slice vp out.length vc).ownBlock ≠ some w.heap.size := by
      rcases hrow.2 with ⟨hv0, hn⟩ | ⟨g, cap, cur, hv0, _, hgb, _⟩
      · exact .inl (by rw [hv0]; rfl)
      · refine .inr ?_
        rw [hv0]
        intro e
        obtain rfl : g = w.heap.size := by simpa [Value.ownBlock] using e
        obtain ⟨es, ck, hh, _⟩ := hown
        rw [hh] at hgb
        cases hgb
    obtain ⟨i0, hii, hz0, hz1, hz2⟩ := info_parts ar_info
    obtain ⟨j0, hjj, hy0, hy1, hy2⟩ := info_parts ar_infoI
    have hxl : xs.length < 1000000 := by
      have := congrArg List.length hxs
      rw [List.length_map] at this
      omega
    obtain ⟨hrl1, hrl2⟩ := ar_run_len _ (ArCell.list pre) rfl
    have hpl : (ArCell.list pre).length = pre.length := by simp [ArCell.list]
    rw [hout, hpl] at hrl2
    rw [hout, hcn2] at hrl1
    have hol : out.length < 1000000 := by omega
    have hcl : cnt.length < 1000000 := by omega
    have HR := Aside0.mk hrl1
    clear hrl1 hrl2
    have hrun : area_boxes.run (ArCell.list (pre ++ [x])) = area_boxes.step x.1 (out, cnt) := by rw [ar_list_snoc, ar_run_snoc, ← hout, ← hcn2]
    have hwf : (Lit.int .i64 (out.length : Int)).wf = true := by
      have := wrap64_wf (out.length : Int)
      rwa [show wrap64 (out.length : Int) = out.length by unfold wrap64; omega] at this
    have holm : out.length < maxLen := by unfold maxLen; omega
    cases hat : area_boxes.at_ x.1.1 out with
    | none =>
      have hhas : Maps.has D (arKey x.1.1) = false := by rw [hT.h, hat]; rfl
      gi_wp2_with (first
        | (gi_at_lookup; refine wpListIn_lookup_own_ok_int _ rfl _ _ 59 rfl 9 3 .i64 (Maps.string_keyed Try.underlying9) Try.underlying59 Try.underlying3 (Try.zeroValue3 _) w.heap.size out.length D rfl hown _ _ rfl hkey ?_; intro c hc1 hc2; rw [hhas])
        | (gi_at_mapUpdate; refine wpListIn_mapUpdate_own _ rfl _ _ _ 59 rfl 9 3 (Maps.string_keyed Try.underlying9) Try.underlying59 _ w.heap.size out.length D rfl hown holm _ _ _ rfl rfl hkey _ [] (plainElem_int Try.underlying3 hwf) ?_; intro w1 hown1 hgrow1; have hmB1 := hmb.kept hgrow1 (by simp); have hcm1 := hmB1.cell; have hvB1 := hv.kept hgrow1 (by simp; omega); have hcv1 := hvB1.cell; have huB1 := hu.kept hgrow1 (by simp; omega); have hcu1 := huB1.cell; have hbx1 := (hgrow1.block Bx (Array.getElem?_eq_some_iff.1 hbx).1 (by simp; omega)).trans hbx; have g0 := (blk_cell hbx1 0).trans rfl; have g1 := (blk_cell hbx1 1).trans rfl; have g2 := (blk_cell hbx1 2).trans rfl; have g3 := (blk_cell hbx1 3).trans rfl; have g4 := (blk_cell hbx1 4).trans rfl; have hrow1 := hrow.kept hgrow1 hnm; have hcnt1 := hcnt.kept hgrow1 hnm2; have hbx1s := (Array.getElem?_eq_some_iff.1 hbx1).1; have hbs := hb.size; have hbs1 : w.heap.size ≤ w1.heap.size := Nat.le_trans hbs hgrow1.size)
        | (gi_at_builtin; refine wpListIn_append_own _ rfl _ _ 23 rfl w.heap.size 32 i0 _ 5 48 Try.underlying23 hii hz0 hz1 hz2 rfl (by decide) _ out.length _ rfl (hrow1.alloc _) ⟨w1.heap.size, 0, none⟩ 1 1 [.string x.1.1, .int .i64 x.1.2.1, .int .i64 x.1.2.2, .int .i64 1, .int .i64 1] rfl rfl (ar_five _ _ _ _ _ _ _) (by simp [Value.oneCell']) (by unfold maxLen; omega) (by omega) (by have := hbx1s; simp; omega) ?_; intro v2 w2 hown2 hgrow2 _; obtain ⟨gv, cv2, rfl⟩ := ownsRow_succ hown2; obtain ⟨hvB2, hvB3, hrow3, hk3, hb3⟩ := hvB1.appended (by decide) hrow1 hbs1 (by omega) hown2 hgrow2; have hcv2 := hvB2.cell; have hfv2 := hvB2.frozen; have huB3 := ((huB1.alloc _).kept hgrow2 (huB1.not_row (by decide) hrow1)).other (B' := w.heap.size + 1 + 1) (by omega) (.slice (some ⟨gv, 0, none⟩) (out.length + 1) cv2); have hcu3 := huB3.cell; have hfu3 := huB3.frozen; have hcnt3 := ((hcnt1.alloc _).kept hgrow2 (rows_apart (by decide) hcnt1 hrow1)).kept (grownBy_setCell' w2 _ (.slice (some ⟨gv, 0, none⟩) (out.length + 1) cv2)) (.inr (hvB2.not_row (by decide) ((hcnt1.alloc _).kept hgrow2 (rows_apart (by decide) hcnt1 hrow1))).symm); have hmB3 := ((hmB1.alloc _).kept hgrow2 (hmB1.not_row (by decide) hrow1)).other (B' := w.heap.size + 1 + 1) (by omega) (.slice (some ⟨gv, 0, none⟩) (out.length + 1) cv2))
        | (gi_at_builtin; refine wpListIn_append_own _ rfl _ _ 57 rfl w.heap.size 3 j0 _ 1 8 Try.underlying57 hjj hy0 hy1 hy2 rfl (by decide) _ cnt.length _ rfl (hcnt3.alloc _) ⟨w2.heap.size, 0, none⟩ 1 1 [.int .i64 1] rfl rfl (cell_one_at _ _ _ _ (by simp)) (by simp [Value.oneCell']) (by unfold maxLen; omega) (by omega) (by have hz := hgrow2.size; simp at hz; simp; omega) ?_; intro v4 w4 hown4 hgrow4 _; obtain ⟨gu, cu4, rfl⟩ := ownsRow_succ hown4; obtain ⟨huB4, huB5, hrow5, hk5, hb5⟩ := huB3.appended (by decide) hcnt3 (Nat.le_trans hbs1 hb3.size) (by omega) hown4 hgrow4; have hcu4 := huB4.cell; have hfu4 := huB4.frozen))
      have hst : area_boxes.step x.1 (out, cnt) = (out ++ [⟨x.1.1, x.1.2.1, x.1.2.2, 1, 1⟩], cnt ++ [1]) := by
        unfold area_boxes.step
        dsimp only
        rw [hat]
      have hkA : KeepsFrom W0.heap.size W w1 := KeepsFrom.of_grownBy hgrow1 (fun j e => by cases e; omega)
      have hbA : Below w.heap.size W w1 := (Below.refl _ W).grown hgrow1 hb.size (fun k e => by cases e; exact Nat.le_refl _)
      have hbB := (hbA.trans hb3).trans hb5
      have hown3 := ((hown1.alloc _).kept hgrow2 (map_apart hown1 hrow1)).kept (grownBy_setCell' w2 (w.heap.size + 1 + 1) (.slice (some ⟨gv, 0, none⟩) (out.length + 1) cv2)) (fun e => by have := Option.some.inj e; omega)
      have hown5 := ((hown3.alloc _).kept hgrow4 (map_apart hown3 hcnt3)).kept (grownBy_setCell' w4 (w.heap.size + 1 + 1 + 1) (.slice (some ⟨gu, 0, none⟩) (cnt.length + 1) cu4)) (fun e => by have := Option.some.inj e; omega)
      have hrow4 := (hrow3.alloc _).kept hgrow4 (rows_apart (by decide) hrow3 hcnt3)
      have hT5 := hT.put ⟨x.1.1, x.1.2.1, x.1.2.2, 1, 1⟩ hat
      refine ⟨(hkA.trans (hk3.from _)).trans (hk5.from _), hbB, ⟨((hmB3.alloc _).kept hgrow4 (hmB3.not_row (by decide) hcnt3)).other (by omega) _, ⟨D.put (arKey x.1.1) (.lit (.int .i64 (out.length : Int))), ?_, ?_⟩, ⟨_, ((hvB3.alloc _).kept hgrow4 (hvB3.not_row (by decide) hcnt3)).other (by omega) _, ?_, trivial⟩, ⟨_, huB5, ?_, trivial⟩⟩, hb.trans hbB⟩
      · rw [hrun, hst]
        simp only [List.length_append, List.length_singleton]
        exact hown5
      · rw [hrun, hst]
        exact hT5
      · rw [hrun, hst]
        simp only [List.length_append, List.length_singleton, List.flatMap_append, List.flatMap_cons, List.flatMap_nil, List.append_nil]
        exact hrow4.kept (grownBy_setCell' w4 _ _) (.inr (huB4.not_row (by decide) hrow4).symm)
      · rw [hrun, hst]
        simp only [List.length_append, List.length_singleton, List.map_append, List.map_cons, List.map_nil]
        exact hrow5
    | some kk =>
      have hhas : Maps.has D (arKey x.1.1) = true := by rw [hT.h, hat]; rfl
      have hatk := hT.a _ _ hat
      obtain ⟨b, hbk, hbn⟩ := ar_at_some x.1.1 out kk hat
      have hkl : kk < out.length := (List.getElem?_eq_some_iff.1 hbk).1
      have hkc : kk < cnt.length := by have := HR.out; omega
      obtain ⟨m, hmk⟩ : ∃ m, cnt[kk]? = some m := ⟨_, List.getElem?_eq_getElem hkc⟩
      obtain ⟨gv, hvp⟩ : ∃ gv, vp = some ⟨gv, 0, none⟩ := by
        rcases hrow.2 with ⟨_, hn⟩ | ⟨g, cap, cur, hv0, _⟩
        · omega
        · cases hv0
          exact ⟨g, rfl⟩
      subst hvp
      obtain ⟨gu, cu, hup⟩ : ∃ gu cu, u = .slice (some ⟨gu, 0, none⟩) cnt.length cu := by
        rcases hcnt.2 with ⟨_, hn⟩ | ⟨g, cap, cur, hv0, _⟩
        · omega
        · exact ⟨g, cap, hv0⟩
      subst hup
      have hflat : ∀ i, i < 5 → (out.flatMap ArEnc)[kk * 5 + i]? = (ArEnc b)[i]? := fun i hi => flat_at out kk i hi hbk
      have q0 := (hrow.cellAt (kk * 5 + 0) (by omega)).trans (hflat 0 (by omega))
      have q1 := (hrow.cellAt (kk * 5 + 1) (by omega)).trans (hflat 1 (by omega))
      have q2 := (hrow.cellAt (kk * 5 + 2) (by omega)).trans (hflat 2 (by omega))
      have q3 := (hrow.cellAt (kk * 5 + 3) (by omega)).trans (hflat 3 (by omega))
      have q4 := (hrow.cellAt (kk * 5 + 4) (by omega)).trans (hflat 4 (by omega))
      simp only [ArEnc, List.getElem?_cons_zero, List.getElem?_cons_succ] at q0 q1 q2 q3 q4
      have d0 := (hcnt.cellAt kk (by omega)).trans (show (cnt.map (Value.int .i64))[kk]? = some (Value.int .i64 m) by simp [hmk])
      have gb := fun i => (blk_cell hbx i)
      have g1 := (blk_cell hbx 1).trans rfl
      have g2 := (blk_cell hbx 2).trans rfl
      have hka : ((⟨gv, 0, none⟩ : Addr).add (kk * 5)) = ⟨gv, kk * 5, none⟩ := by rw [addr_add, Nat.zero_add]
      have hkb : ((⟨gu, 0, none⟩ : Addr).add kk) = ⟨gu, kk, none⟩ := by rw [addr_add, Nat.zero_add]
      gi_wp2_with (gi_at_lookup; refine wpListIn_lookup_own_ok_int _ rfl _ _ 59 rfl 9 3 .i64 (Maps.string_keyed Try.underlying9) Try.underlying59 Try.underlying3 (Try.zeroValue3 _) w.heap.size out.length D rfl hown _ _ rfl hkey ?_; intro c hc1 hc2; rw [hhas]; obtain rfl : c = (kk : Int) := (by rw [hatk] at hc1; cases hc1; rfl))
      have S0 : ArSt w.heap.size Bx W0.heap.size gv vc gu cu x.1 D W out cnt W := ⟨hmb, hown, hv, hrow, hu, hcnt, hbx, hbv _ hv, KeepsFrom.refl _ _, Below.refl _ _⟩
      refine wpIn_region_still_drew (neutral_round l) 7 (by kernel_rfl) (by kernel_rfl) ?_
      intro W1 hW1
      have S1 := S0.drew
      rw [← hW1] at S1
      clear hW1
      have f2 := S1.cellV hbk (i := 2) (by decide) rfl
      have x2 := (blk_cell S1.bx 2).trans rfl
      simp only [List.take_succ_cons, List.take_zero, List.drop_succ_cons, List.drop_zero]
      repeat still_step
      refine wpStill_nil ?_
      gi_wp2
      all_goals
        refine wpIn_region_still_drew (neutral_round l) 18 (by kernel_rfl) (by kernel_rfl) ?_
        intro W2 hW2
        have S2 := S1.drew
        rw [← hW2] at S2
        clear hW2 f2 x2
        have f2 := S2.cellV hbk (i := 2) (by decide) rfl
        have f4 := S2.cellV hbk (i := 4) (by decide) rfl
        have e1 := i64_w (b.f2 + b.f4)
        have e2 := i64_w (x.1.2.2 + 1)
        have z4 := S2.vr.frozenAt (kk * 5 + 4)
        have z2 := S2.vr.frozenAt (kk * 5 + 2)
        have x2 := (blk_cell S2.bx 2).trans rfl
        simp only [List.take_succ_cons, List.take_zero, List.drop_succ_cons, List.drop_zero]
        repeat still_step
        try refine wpStill_nil ?_
      all_goals gi_wp2
      all_goals
        first
        | (exfalso; omega)
        | (refine wpIn_region_still_drew (neutral_round l) 11 (by kernel_rfl) (by kernel_rfl) ?_
           intro W5 hW5a
           obtain ⟨v4, v2, hW5, hv4, hv2⟩ : ∃ v4 v2 : Int, W5 = ((W2.setCell ⟨gv, kk * 5 + 4, none⟩ (.int .i64 v4)).setCell ⟨gv, kk * 5 + 2, none⟩ (.int .i64 v2)).drew ∧ v4 = wrap64 (max (wrap64 (b.f2 + b.f4)) (wrap64 (x.1.2.2 + 1)) - min b.f2 x.1.2.2) ∧ v2 = min b.f2 x.1.2.2 := by
             refine ⟨_, _, hW5a, ?_, ?_⟩
             · congr 1 <;> omega
             · omega
           have S5 := ((S2.stV (out' := out.set kk ⟨b.f0, b.f1, b.f2, b.f3, v4⟩) (kk * 5 + 4) (.int .i64 v4) (flat_set out kk 4 (by decide) hbk rfl) (by simp)).stV (out' := out.set kk ⟨b.f0, b.f1, v2, b.f3, v4⟩) (kk * 5 + 2) (.int .i64 v2) ((by rw [List.set_set] : _ = ((out.set kk (⟨b.f0, b.f1, b.f2, b.f3, v4⟩ : S32)).set kk ⟨b.f0, b.f1, v2, b.f3, v4⟩).flatMap ArEnc) ▸ flat_set _ kk 2 (by decide) (List.getElem?_set_self hkl) rfl) (by simp)).drew
           rw [← hW5] at S5
           clear hW5a hW5 f2 f4 z4 z2 x2 S2 S1 S0
           have hb2 : (out.set kk (⟨b.f0, b.f1, v2, b.f3, v4⟩ : S32))[kk]? = some ⟨b.f0, b.f1, v2, b.f3, v4⟩ := List.getElem?_set_self hkl
           have f1 : W5.cell? ⟨gv, kk * 5 + 1, none⟩ = some (.int .i64 b.f1) := S5.cellV hb2 (i := 1) (by decide) rfl
           have f3 : W5.cell? ⟨gv, kk * 5 + 3, none⟩ = some (.int .i64 b.f3) := S5.cellV hb2 (i := 3) (by decide) rfl
           have z3 := S5.vr.frozenAt (kk * 5 + 3)
           have x1 : W5.cell? ⟨Bx, 1, none⟩ = some (.int .i64 x.1.2.1) := (blk_cell S5.bx 1).trans rfl
           simp only [List.take_succ_cons, List.take_zero, List.drop_succ_cons, List.drop_zero]
           repeat still_step
           refine wpStill_nil ?_
           have y1 := S5.cellU hmk
           have zu := S5.ur.frozenAt kk
           have cbu := S5.ub.cell
           have n1 : ¬ w.heap.size + 1 + 1 + 1 = gv := fun e => S5.ub.not_row (by decide) S5.vr (by rw [e]; rfl)
           have n2 : ¬ gu = gv := by
             rcases rows_apart (by decide) S5.ur S5.vr with e | e
             · cases e
             · exact fun h => e (by rw [h]; rfl)
           gi_wp2
           have hxg : ∀ {o'} {W'}, ArSt w.heap.size Bx W0.heap.size gv vc gu cu x.1 D W o' cnt W' → some Bx ≠ some gu := by
             intro o' W' S e
             rcases S.ur.2 with ⟨hv0, _⟩ | ⟨g, cap, cur, hv0, _, hgb, _⟩
             · cases hv0
             · simp only [Value.slice.injEq, Option.some.injEq, Addr.mk.injEq] at hv0
               obtain ⟨⟨rfl, _⟩, _⟩ := hv0
               have hbx5 := S.bx
               rw [Option.some.inj e, hgb] at hbx5
               simp at hbx5
           have S7 := (S5.stV (out' := out.set kk (area_boxes.wide b x.1.2.1 x.1.2.2)) (kk * 5 + 3) (.int .i64 (wrap64 (wrap64 (x.1.2.1 + 1) - b.f1))) ((by rw [List.set_set] : _ = ((out.set kk (⟨b.f0, b.f1, v2, b.f3, v4⟩ : S32)).set kk (area_boxes.wide b x.1.2.1 x.1.2.2)).flatMap ArEnc) ▸ flat_set _ kk 3 (by decide) hb2 (by rw [hv2, hv4]; rfl)) (by simp)).stU (hxg (S5.stV (out' := out.set kk (area_boxes.wide b x.1.2.1 x.1.2.2)) (kk * 5 + 3) (.int .i64 (wrap64 (wrap64 (x.1.2.1 + 1) - b.f1))) ((by rw [List.set_set] : _ = ((out.set kk (⟨b.f0, b.f1, v2, b.f3, v4⟩ : S32)).set kk (area_boxes.wide b x.1.2.1 x.1.2.2)).flatMap ArEnc) ▸ flat_set _ kk 3 (by decide) hb2 (by rw [hv2, hv4]; rfl)) (by simp))) kk (wrap64 (m + 1))
           have hst : area_boxes.step x.1 (out, cnt) = (out.set kk (area_boxes.wide b x.1.2.1 x.1.2.2), cnt.set kk (wrap64 (m + 1))) := by
             unfold area_boxes.step
             dsimp only
             rw [hat]
             dsimp only
             rw [modify_set hbk, modify_set hmk]
           refine ⟨S7.kf, S7.bl, ⟨S7.mb, ⟨D, ?_, ?_⟩, ⟨_, S7.vb, ?_, trivial⟩, ⟨_, S7.ub, ?_, trivial⟩⟩, hb.trans S7.bl⟩
           · rw [hrun, hst]
             exact S7.om
           · rw [hrun, hst]
             exact hT.same (names_set (b' := area_boxes.wide b x.1.2.1 x.1.2.2) hbk rfl).symm
           · rw [hrun, hst]
             exact S7.vr
           · rw [hrun, hst]
             exact S7.ur)
  case done =>
    rintro Dd ys W hD rfl ⟨⟨hmb, _, ⟨v, hv, hrow, _⟩, ⟨u, hu, hcnt, _⟩⟩, hB⟩ hK
    obtain ⟨out, hout⟩ : ∃ out, (area_boxes.run (ArCell.list ys)).1 = out := ⟨_, rfl⟩
    obtain ⟨cnt, hcn2⟩ : ∃ cnt, (area_boxes.run (ArCell.list ys)).2 = cnt := ⟨_, rfl⟩
    obtain ⟨hrl1, hrl2⟩ := ar_run_len _ (ArCell.list ys) rfl
    have hpl : (ArCell.list ys).length = (area_boxes.cells l0 0).length := by rw [← hxs]; simp [ArCell.list]
    rw [hout, hpl] at hrl2
    rw [hout, hcn2] at hrl1
    rw [hout] at hrow
    rw [hcn2] at hcnt
    rw [show area_boxes.cells l0 0 = ArCell.list ys from hxs.symm, hout, hcn2] at h
    have hol : out.length < 1000000 := by omega
    have HR := Aside0.mk hrl1
    have H := Aside0.mk h
    clear hrl1 hrl2 h
    obtain ⟨vp, vc, rfl⟩ : ∃ p c, v = .slice p out.length c := by
      rcases hrow.2 with ⟨hv0, hn⟩ | ⟨g, cap, cur, hv0, _⟩
      · exact ⟨none, 0, by rw [hv0, hn]⟩
      · exact ⟨_, _, hv0⟩
    obtain ⟨up, uc, rfl⟩ : ∃ p c, u = .slice p cnt.length c := by
      rcases hcnt.2 with ⟨hv0, hn⟩ | ⟨g, cap, cur, hv0, _⟩
      · exact ⟨none, 0, by rw [hv0, hn]⟩
      · exact ⟨_, _, hv0⟩
    have hcv := hv.cell
    have hcu := hu.cell
    gi_wp2
    gi_loopw [90] (fun v90 wr => ∃ (i : Nat), i ≤ out.length ∧ v90 = .int .i64 i ∧ Aside0 (area_boxes.full out cnt = area_boxes.full (out.drop i) (cnt.drop i)) ∧ Boxed wr (w.heap.size + 1 + 1) 23 (.slice vp out.length vc) ∧ wr.ownsRow w.heap.size 32 5 (.slice vp out.length vc) out.length (out.flatMap ArEnc) ∧ Boxed wr (w.heap.size + 1 + 1 + 1) 57 (.slice up cnt.length uc) ∧ wr.ownsRow w.heap.size 3 1 (.slice up cnt.length uc) cnt.length (cnt.map (Value.int .i64)) ∧ wr.heap[Dd]? = some (.deferred (some [])) ∧ Below w.heap.size w wr)
      (fun v90 _ => out.length - (intOf v90).toNat)
    case atStart => exact ⟨0, Nat.zero_le _, rfl, ⟨rfl⟩, hv, hrow, hu, hcnt, hK, hB⟩
    case round =>
      obtain ⟨i, hi, rfl, HF, hv, hrow, hu, hcnt, hK, hB⟩ := hrel
      have hcv := hv.cell
      have hcu := hu.cell
      by_cases hlt : i < out.length
      · obtain ⟨gv, hvp⟩ : ∃ gv, vp = some ⟨gv, 0, none⟩ := by
          rcases hrow.2 with ⟨_, hn⟩ | ⟨g, cap, cur, hv0, _⟩
          · omega
          · cases hv0
            exact ⟨g, rfl⟩
        subst hvp
        have hlc : i < cnt.length := by have := HR.out; omega
        obtain ⟨gu, hup⟩ : ∃ gu, up = some ⟨gu, 0, none⟩ := by
          rcases hcnt.2 with ⟨_, hn⟩ | ⟨g, cap, cur, hv0, _⟩
          · omega
          · cases hv0
            exact ⟨g, rfl⟩
        subst hup
        obtain ⟨b, hbk⟩ : ∃ b, out[i]? = some b := ⟨_, List.getElem?_eq_getElem hlt⟩
        obtain ⟨m, hmk⟩ : ∃ m, cnt[i]? = some m := ⟨_, List.getElem?_eq_getElem hlc⟩
        have hF2 : area_boxes.full (out.drop i) (cnt.drop i) = (decide (wrap64 (b.f3 * b.f4) = m) && area_boxes.full (out.drop (i + 1)) (cnt.drop (i + 1))) := by
          rw [List.drop_eq_getElem_cons hlt, List.drop_eq_getElem_cons hlc, (List.getElem?_eq_some_iff.1 hbk).2, (List.getElem?_eq_some_iff.1 hmk).2]
          rfl
        have HF2 := Aside0.mk (HF.out.trans hF2)
        clear hF2
        have q0 : wr.cell? ⟨gv, i * 5, none⟩ = some (.string b.f0) := (hrow.cellAt (i * 5) (by omega)).trans (flat_at out i 0 (by decide) hbk)
        have q1 : wr.cell? ⟨gv, i * 5 + 1, none⟩ = some (.int .i64 b.f1) := (hrow.cellAt (i * 5 + 1) (by omega)).trans (flat_at out i 1 (by decide) hbk)
        have q2 : wr.cell? ⟨gv, i * 5 + 2, none⟩ = some (.int .i64 b.f2) := (hrow.cellAt (i * 5 + 2) (by omega)).trans (flat_at out i 2 (by decide) hbk)
        have q3 : wr.cell? ⟨gv, i * 5 + 3, none⟩ = some (.int .i64 b.f3) := (hrow.cellAt (i * 5 + 3) (by omega)).trans (flat_at out i 3 (by decide) hbk)
        have q4 : wr.cell? ⟨gv, i * 5 + 4, none⟩ = some (.int .i64 b.f4) := (hrow.cellAt (i * 5 + 4) (by omega)).trans (flat_at out i 4 (by decide) hbk)
        have hka : ((⟨gv, 0, none⟩ : Addr).add (i * 5)) = ⟨gv, i * 5, none⟩ := by rw [addr_add, Nat.zero_add]
        have hkb : ((⟨gu, 0, none⟩ : Addr).add i) = ⟨gu, i, none⟩ := by rw [addr_add, Nat.zero_add]
        have hii := ar_info
        gi_wp2
        refine wpIn_region_still_drew neutral_wide 9 (by kernel_rfl) (by kernel_rfl) ?_
        intro W1 hW1
        have hv1 : Boxed W1 (w.heap.size + 1 + 1) 23 (.slice (some ⟨gv, 0, none⟩) out.length vc) := by rw [hW1]; exact hv.alloc _
        have hu1 : Boxed W1 (w.heap.size + 1 + 1 + 1) 57 (.slice (some ⟨gu, 0, none⟩) cnt.length uc) := by rw [hW1]; exact hu.alloc _
        have hrow1 : W1.ownsRow w.heap.size 32 5 (.slice (some ⟨gv, 0, none⟩) out.length vc) out.length (out.flatMap ArEnc) := by rw [hW1]; exact (hrow.alloc _).drew
        have hcnt1 : W1.ownsRow w.heap.size 3 1 (.slice (some ⟨gu, 0, none⟩) cnt.length uc) cnt.length (cnt.map (Value.int .i64)) := by rw [hW1]; exact (hcnt.alloc _).drew
        have hbn : W1.heap[wr.heap.size]? = some (.cells #[.string b.f0, .int .i64 b.f1, .int .i64 b.f2, .int .i64 b.f3, .int .i64 b.f4] 32 (0, 0)) := by rw [hW1]; exact World.alloc_heap_new wr _
        have hK1 : W1.heap[Dd]? = some (.deferred (some [])) := by rw [hW1]; exact (Below.heap_alloc wr _ Dd (Array.getElem?_eq_some_iff.1 hK).1).trans hK
        have hB1 : Below w.heap.size w W1 := by rw [hW1]; exact (hB.alloc hB.size _).drew
        clear hW1
        have p3 : W1.cell? ⟨wr.heap.size, 3, none⟩ = some (.int .i64 b.f3) := (blk_cell hbn 3).trans rfl
        have p4 : W1.cell? ⟨wr.heap.size, 4, none⟩ = some (.int .i64 b.f4) := (blk_cell hbn 4).trans rfl
        have hcu1 := hu1.cell
        have d1 : W1.cell? ⟨gu, i, none⟩ = some (.int .i64 m) := (hcnt1.cellAt i (by omega)).trans (by simp [hmk])
        have e1 := i64_w (b.f3 * b.f4)
        by_cases hm : wrap64 (b.f3 * b.f4) = m
        · simp only [List.take_succ_cons, List.take_zero, List.drop_succ_cons, List.drop_zero]
          repeat still_step
          refine wpStill_nil ?_
          gi_wp2
          go_roundw
          case rel => exact ⟨i + 1, by omega, by simp, ⟨HF2.out.trans (by rw [decide_eq_true hm, Bool.true_and])⟩, hv1, hrow1, hu1, hcnt1, hK1, hB1⟩
          case measure => simp [intOf]; omega
        · simp only [List.take_succ_cons, List.take_zero, List.drop_succ_cons, List.drop_zero]
          repeat still_step
          refine wpStill_nil ?_
          gi_wp2
          refine ⟨by simp, .inl ⟨_, _, rfl, run_takeDeferred hK1, ?_⟩⟩
          have hH := H.out
          have hF := HF2.out
          rw [decide_eq_false hm, Bool.false_and] at hF
          rw [hF, if_neg (by decide)] at hH
          simp only [Option.some.injEq, Prod.mk.injEq] at hH
          obtain ⟨rfl, rfl⟩ := hH
          refine ⟨_, results_tmp2 rfl _ _ _, _, rfl, Kd.R_nil _ _ _ _ _, hB1.trans (belowK_b (w := w) (Nat.le_refl _) W1 Dd _ _ (by omega) hK1 rfl rfl)⟩
      · obtain rfl : i = out.length := by omega
        gi_wp2
        refine ⟨by simp, .inl ⟨_, _, rfl, run_takeDeferred hK, ?_⟩⟩
        have hH := H.out
        have hF := HF.out
        rw [List.drop_length] at hF
        rw [hF, show area_boxes.full [] (cnt.drop out.length) = true from by cases cnt.drop out.length <;> rfl, if_pos rfl] at hH
        simp only [Option.some.injEq, Prod.mk.injEq] at hH
        obtain ⟨rfl, rfl⟩ := hH
        refine ⟨_, results_tmp2 rfl _ _ _, _, rfl, ar_R (ownsRow_putObj hrow _ hK rfl), hB.trans (belowK_b (w := w) (Nat.le_refl _) wr Dd _ _ (by omega) hK rfl rfl)⟩
  case stop =>
    rintro D c pre W _ _ h _
    exact h.elim
end Go.Proofs.Ytaalmkkekbhpnaa.Giv
