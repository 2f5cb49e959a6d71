/- The contract of names.where, by hand: the map that it makes holds, for each name, the lines that have it. Condition: tables of at most a million lines, each of at most a million names, none of them longer than can be read. -/
import Derived.Test.YtaalmkkekbhpnaaProg
import Derived.Below
import Derived.OwnWalk
import Derived.Maps.OwnRows
import Derived.Maps.OwnOps
import Derived.Maps.GroupsBeside
import Derived.Maps.Views
import Derived.Maps.AppendAt
import Derived.Tactics
import Derived.WalkKit
import Derived.KernelRfl
import Derived.RowKit3
import Derived.Deep.LoopGhost
import Derived.Outline
import Derived.Lib.Hide
import Derived.Test.YtaalmkkekbhpnaaWWords
import Derived.Test.YtaalmkkekbhpnaaWLast
import Derived.Test.YtaalmkkekbhpnaaWMore
set_option linter.unusedVariables false
set_option linter.unusedSimpArgs false
namespace Go.Proofs.Ytaalmkkekbhpnaa.Giv
open Go.RowKit Go.Proofs.YtaalmkkekbhpnaaW.PrintWords Go.Proofs.YtaalmkkekbhpnaaW.PrintLast Go.Proofs.YtaalmkkekbhpnaaW.PrintMore
open Go.ChangeShapes (lits)
open Go.Maps

/-! ### the plain words -/
def lineAt (t : List (List ByteArray)) (k : Nat) : List ByteArray := t.getD k []
def nameAt (l : List ByteArray) (j : Nat) : ByteArray := l.getD j ByteArray.empty
def hasN (l : List ByteArray) (s : ByteArray) : Bool := (s.toList == ([] : List UInt8)) || l.any (fun x => x.toList == s.toList)
def hitsK (t : List (List ByteArray)) (s : ByteArray) (k : Nat) : List Int := ((List.range k).filter (fun i => hasN (lineAt t i) s)).map (fun i : Nat => (i : Int))
def namedIn (l : List ByteArray) (s : ByteArray) (j : Nat) : Bool := (s.toList != ([] : List UInt8)) && (l.take j).any (fun x => x.toList == s.toList)
def rowD (zs : List Int) : DataW Unit := if zs = [] then .nil else .slice (lits .i64 zs) []
def keyL (s : ByteArray) : Lit := .string s.data.toList
def Small (l0 : List (List ByteArray)) : Prop := l0.length ≤ 1000000 ∧ ∀ l ∈ l0, l.length ≤ 1000000 ∧ ∀ s ∈ l, s.size ≤ 9223372036854775807

theorem lits_inj : ∀ {xs ys : List Int}, lits (H := Unit) .i64 xs = lits .i64 ys → xs = ys
  | [], [], _ => rfl
  | [], _ :: _, h => by simp [lits] at h
  | _ :: _, [], h => by simp [lits] at h
  | x :: xs, y :: ys, h => by
    simp only [lits, List.map_cons, List.cons.injEq, DataW.lit.injEq, Lit.int.injEq, true_and] at h
    rw [h.1, lits_inj (xs := xs) (ys := ys) h.2]
theorem rowD_of {w : World} {base : Nat} {e : TypeId} {v : Value} {zs zs' : List Int} (ho : w.ownsInts base e .i64 v zs) (h : rowD zs' = rowDatum .i64 v zs) : zs' = zs := by
  rcases ho.datum (H := Unit) with ⟨h1, rfl⟩ | h1
  · rw [h1] at h
    unfold rowD at h
    split at h
    · assumption
    · cases h
  · rw [h1] at h
    unfold rowD at h
    split at h
    · cases h
    · simp only [DataW.slice.injEq, and_true] at h
      exact lits_inj h
theorem rowD_app (zs : List Int) (x : Int) : rowD (zs ++ [x]) = .slice (lits .i64 (zs ++ [x])) [] := by simp [rowD]
theorem key_ne {a b : ByteArray} (h : a.toList ≠ b.toList) : keyL a ≠ keyL b := by
  intro e
  apply h
  rw [ByteArray.toList_eq, ByteArray.toList_eq]
  unfold keyL at e
  injection e
theorem key_eq {a b : ByteArray} (h : a.toList = b.toList) : keyL a = keyL b := by
  unfold keyL
  rw [← ByteArray.toList_eq, ← ByteArray.toList_eq, h]
theorem key_is (s : ByteArray) : WideAt.IsKeyLit (keyL s) := by simp [keyL, WideAt.IsKeyLit]

/-- The map holds, for each name, the lines that have it, of the first k, and of line k's first j names. -/
def Holds (t : List (List ByteArray)) (k j : Nat) (D : DataW Unit) : Prop :=
  IsMap D ∧ ∀ s : ByteArray, D.atKey (keyL s) .nil = rowD (hitsK t s k ++ if namedIn (lineAt t k) s j then [(k : Int)] else [])
def Met (l : List ByteArray) (j : Nat) (D : DataW Unit) : Prop :=
  IsMap D ∧ ∀ s : ByteArray, D.atKey (keyL s) (.lit (.bool false)) = .lit (.bool (namedIn l s j))

theorem hitsK_succ (t : List (List ByteArray)) (s : ByteArray) (k : Nat) : hitsK t s (k + 1) = hitsK t s k ++ if hasN (lineAt t k) s then [(k : Int)] else [] := by
  unfold hitsK
  rw [List.range_succ, List.filter_append, List.map_append]
  congr 1
  by_cases h : hasN (lineAt t k) s <;> simp [h]
theorem namedIn_zero (l : List ByteArray) (s : ByteArray) : namedIn l s 0 = false := by simp [namedIn]
theorem take_succ_any (l : List ByteArray) (j : Nat) (hj : j < l.length) (f : ByteArray → Bool) : (l.take (j + 1)).any f = ((l.take j).any f || f (nameAt l j)) := by
  rw [List.take_succ_eq_append_getElem hj, List.any_append]
  simp [nameAt, List.getD, List.getElem?_eq_getElem hj]
theorem namedIn_skip (l : List ByteArray) (s : ByteArray) (j : Nat) (hj : j < l.length) (h : (nameAt l j).toList = [] ∨ namedIn l (nameAt l j) j = true) : namedIn l s (j + 1) = namedIn l s j := by
  unfold namedIn
  rw [take_succ_any l j hj]
  by_cases he : (nameAt l j).toList = s.toList
  · rcases h with h | h
    · rw [h] at he
      simp [← he]
    · unfold namedIn at h
      rw [he] at h
      simp only [Bool.and_eq_true] at h
      rw [h.1, h.2]
      simp
  · rw [beq_eq_false_iff_ne.mpr he]
    simp
theorem namedIn_step (l : List ByteArray) (s : ByteArray) (j : Nat) (hj : j < l.length) (h : (nameAt l j).toList ≠ []) : namedIn l s (j + 1) = (namedIn l s j || ((nameAt l j).toList == s.toList)) := by
  unfold namedIn
  rw [take_succ_any l j hj]
  by_cases he : (nameAt l j).toList = s.toList
  · rw [← he]
    simp [h]
  · rw [beq_eq_false_iff_ne.mpr he]
    simp

theorem Holds.start (t : List (List ByteArray)) : Holds t 0 0 (.map []) :=
  ⟨isMap_empty, fun s => by rw [namedIn_zero]; simp [hitsK, rowD, DataW.atKey]⟩
theorem Met.start (l : List ByteArray) : Met l 0 (.map []) := ⟨isMap_empty, fun s => by rw [namedIn_zero]; simp [DataW.atKey]⟩
theorem Holds.skip {t : List (List ByteArray)} {k j : Nat} {D : DataW Unit} (h : Holds t k j D) (hj : j < (lineAt t k).length)
    (hs : (nameAt (lineAt t k) j).toList = [] ∨ namedIn (lineAt t k) (nameAt (lineAt t k) j) j = true) : Holds t k (j + 1) D :=
  ⟨h.1, fun s => by rw [namedIn_skip _ s j hj hs]; exact h.2 s⟩
theorem Met.skip {l : List ByteArray} {j : Nat} {D : DataW Unit} (h : Met l j D) (hj : j < l.length) (hs : (nameAt l j).toList = [] ∨ namedIn l (nameAt l j) j = true) : Met l (j + 1) D :=
  ⟨h.1, fun s => by rw [namedIn_skip _ s j hj hs]; exact h.2 s⟩
theorem Met.step {l : List ByteArray} {j : Nat} {D : DataW Unit} (h : Met l j D) (hj : j < l.length) (hne : (nameAt l j).toList ≠ []) : Met l (j + 1) (D.put (keyL (nameAt l j)) (.lit (.bool true))) :=
  ⟨h.1.put _ _, fun s => by
    rw [namedIn_step l s j hj hne]
    by_cases he : (nameAt l j).toList = s.toList
    · rw [key_eq he, atKey_put_same h.1 (key_is _)]
      simp [he]
    · rw [atKey_put_other (Ne.symm (key_ne he)), h.2 s]
      simp [he]⟩
theorem Holds.step {t : List (List ByteArray)} {k j : Nat} {D : DataW Unit} (h : Holds t k j D) (hj : j < (lineAt t k).length) (hne : (nameAt (lineAt t k) j).toList ≠ [])
    (hnot : namedIn (lineAt t k) (nameAt (lineAt t k) j) j = false) {w : World} {base : Nat} {e : TypeId} {v : Value} {zs : List Int} (ho : w.ownsInts base e .i64 v zs)
    (hat : D.atKey (keyL (nameAt (lineAt t k) j)) .nil = rowDatum .i64 v zs) : Holds t k (j + 1) (D.put (keyL (nameAt (lineAt t k) j)) (.slice (lits .i64 (zs ++ [(k : Int)])) [])) :=
  ⟨h.1.put _ _, fun s => by
    rw [namedIn_step _ s j hj hne]
    by_cases he : (nameAt (lineAt t k) j).toList = s.toList
    · rw [key_eq he, atKey_put_same h.1 (key_is _)]
      have h2 := h.2 (nameAt (lineAt t k) j)
      rw [hat] at h2
      have h3 := rowD_of ho h2.symm
      rw [hnot] at h3
      have h4 : namedIn (lineAt t k) s j = false := by rw [← hnot]; unfold namedIn; rw [he]
      have h5 : hitsK t s k = hitsK t (nameAt (lineAt t k) j) k := by unfold hitsK hasN; rw [he]
      simp only [Bool.false_eq_true, if_false, List.append_nil] at h3
      rw [← h3, h4, h5]
      simp only [he, beq_self_eq_true, Bool.or_true, if_true]
      exact (rowD_app _ _).symm
    · rw [atKey_put_other (Ne.symm (key_ne he)), h.2 s]
      simp [he]⟩
theorem Holds.next {t : List (List ByteArray)} {k : Nat} {D : DataW Unit} (h : Holds t k (lineAt t k).length D) {w : World} {base : Nat} {e : TypeId} {v : Value} {zs : List Int} (ho : w.ownsInts base e .i64 v zs)
    (hat : D.atKey (.string []) .nil = rowDatum .i64 v zs) : Holds t (k + 1) 0 (D.put (.string []) (.slice (lits .i64 (zs ++ [(k : Int)])) [])) := by
  have hk : (.string [] : Lit) = keyL ByteArray.empty := rfl
  have he : ByteArray.empty.toList = [] := by rw [ByteArray.toList_eq]; rfl
  rw [hk] at hat ⊢
  refine ⟨h.1.put _ _, fun s => ?_⟩
  rw [namedIn_zero, hitsK_succ]
  simp only [Bool.false_eq_true, if_false, List.append_nil]
  by_cases hs : s.toList = []
  · rw [key_eq (a := s) (b := ByteArray.empty) (by rw [hs, he]), atKey_put_same h.1 (key_is _)]
    have h2 := h.2 ByteArray.empty
    rw [hat] at h2
    have h3 := rowD_of ho h2.symm
    have h4 : namedIn (lineAt t k) ByteArray.empty (lineAt t k).length = false := by simp [namedIn, he]
    have h5 : hitsK t s k = hitsK t ByteArray.empty k := by unfold hitsK hasN; rw [hs, he]
    rw [h4] at h3
    simp only [Bool.false_eq_true, if_false, List.append_nil] at h3
    rw [← h3, h5]
    simp only [hasN, hs, beq_self_eq_true, Bool.true_or, if_true]
    exact (rowD_app _ _).symm
  · rw [atKey_put_other (key_ne (by rw [he]; exact hs)), h.2 s]
    have : hasN (lineAt t k) s = namedIn (lineAt t k) s (lineAt t k).length := by
      unfold hasN namedIn
      rw [List.take_length, beq_eq_false_iff_ne.mpr hs, bne_iff_ne.mpr hs]
      simp
    rw [this]

/-- A row of cells is no map's block. -/
theorem ints_not_map {w : World} {base : Nat} {e : TypeId} {v : Value} {zs : List Int} {b : Nat} {es : Array MapEntry} {clock : Nat} (ho : w.ownsInts base e .i64 v zs) (hb : w.heap[b]? = some (.map es clock)) : some b ≠ v.ownBlock := by
  intro h
  obtain ⟨cells, hc⟩ := own_typed ho.1 b h.symm
  rw [hb] at hc
  cases hc
theorem groups_beside {w w' : World} {P : Program} {k : TypeId} {base : Nat} {e : TypeId} {b n : Nat} {D : DataW Unit} (h : w.ownsGroups P k base e .i64 b n D) {g : Nat} (hg : w.grownBy w' (some g)) (hb : b ≠ g) {es : Array MapEntry} {clock : Nat}
    (hm : w.heap[g]? = some (.map es clock)) : w'.ownsGroups P k base e .i64 b n D := by
  refine h.kept hg (fun he => hb (by injection he)) (fun es' clock' hb' x hx => ?_)
  obtain ⟨es1, clock1, hb1, F, _⟩ := h
  rw [hb1] at hb'
  cases hb'
  obtain ⟨y, hy⟩ := F.reads x hx
  obtain ⟨z, hz, _⟩ := WideElems.rd_val hy
  obtain ⟨zs, hoi, _⟩ := rowElem_inv hz
  exact .inr (fun e1 => ints_not_map hoi hm e1.symm)
theorem ownsMap_block {w : World} {P : Program} {k : TypeId} {R : Value → Option (DataW Unit × List MemPlace)} {b n : Nat} {D : DataW Unit} (h : w.ownsMap P k R b n D) : ∃ es clock, w.heap[b]? = some (.map es clock) := by
  obtain ⟨es, clock, hb, _⟩ := h
  exact ⟨es, clock, hb⟩
theorem groups_block {w : World} {P : Program} {k : TypeId} {base : Nat} {e : TypeId} {b n : Nat} {D : DataW Unit} (h : w.ownsGroups P k base e .i64 b n D) : ∃ es clock, w.heap[b]? = some (.map es clock) := by
  obtain ⟨es, clock, hb, _⟩ := h
  exact ⟨es, clock, hb⟩
theorem plainElem_bool_inv {P : Program} {e : TypeId} (he : P.underlying e = some .bool) {v : Value} {z : DataW Unit × List MemPlace} (h : plainElem P e v = some z) : ∃ a, v = .bool a ∧ z = (.lit (.bool a), []) := by
  unfold plainElem at h
  rw [he] at h
  cases v <;> simp at h
  exact ⟨_, rfl, h.symm⟩

/-- 'm[k]' of a map of bools: what was met. -/
theorem met_look {P : Program} {w : World} {t k e : TypeId} {b n j : Nat} {D : DataW Unit} {l : List ByteArray} (h : w.ownsMap P k (plainElem P e) b n D) (hm : Met l j D) (K : Keyed P k) (ht : P.underlying t = some (.map k e)) (hk : P.underlying k = some .string) (he : P.underlying e = some .bool)
    (hz : (zeroValue e).run P w = .ok (.bool false) w) (s : ByteArray) (hs : s.size ≤ maxLen) : (Instr.lookup t (.map (some b)) (.string s) false).run P w = .ok (.bool (namedIn l s j)) w := by
  obtain ⟨v, ps, hrun, hv⟩ := h.lookup K ht hz (plainElem_bool he false) (WideMaps.keyOf_string_mk hk hs)
  obtain ⟨a, rfl, hc⟩ := plainElem_bool_inv he hv
  have h2 := hm.2 s
  unfold keyL at h2
  rw [h2] at hc
  simp only [Prod.mk.injEq, DataW.lit.injEq, Lit.bool.injEq] at hc
  rw [hc.1]
  exact hrun

theorem where_info : (Try.prog.info? 3).map (fun i => (i.zero, i.size, i.bytes)) = some (some (.int .i64 0), 1, 8) := by kernel_rfl
theorem where_zeroI (w : World) : (zeroValue 57).run Try.prog w = .ok (.slice none 0 0) w := by kernel_rfl
theorem where_zeroB (w : World) : (zeroValue 4).run Try.prog w = .ok (.bool false) w := by kernel_rfl
theorem line_at {w : World} {A : Option Addr} {n : Nat} {xs : List (List ByteArray)} (h : Kd.C (Kd.slice 9 Kd.string) w A n xs) (i : Nat) (h1 : i < n) :
    ∃ ad A0 c0, A = some ad ∧ w.cell? (ad.add i) = some (.slice A0 (lineAt xs i).length c0) ∧ (lineAt xs i).length ≤ c0 ∧ Kd.string.C w A0 (lineAt xs i).length (lineAt xs i) := by
  obtain ⟨ad, c, e, _, hK, hc0⟩ := Kd.C_get h ([] : List ByteArray) (i : Int) (by omega) (by omega)
  obtain ⟨A0, c0, rfl, l0, g0⟩ := hK
  exact ⟨ad, A0, c0, e, by have hq := hc0 0 _ rfl; rw [Int.toNat_natCast] at hq; simpa [Kd.slice, lineAt] using hq, by simpa [lineAt] using l0, by simpa [lineAt] using g0⟩
theorem name_at {w : World} {A : Option Addr} {n : Nat} {xs : List ByteArray} (h : Kd.C Kd.string w A n xs) (i : Nat) (h1 : i < n) : ∃ ad, A = some ad ∧ w.cell? (ad.add i) = some (.string (nameAt xs i)) := by
  obtain ⟨ad, e, hx⟩ := Kd.at_string h (i : Int) (by omega) (by omega)
  exact ⟨ad, e, by simpa [nameAt, rdOf] using hx⟩

theorem groups_alloc {w : World} {P : Program} {k : TypeId} {base : Nat} {e : TypeId} {b n : Nat} {D : DataW Unit} (h : w.ownsGroups P k base e .i64 b n D) (o : Obj) : (w.alloc o).ownsGroups P k base e .i64 b n D :=
  h.kept (World.grownBy_alloc w o none) (by simp) (fun _ _ _ x _ => by cases x.val.ownBlock <;> simp)
theorem small_name {l0 : List (List ByteArray)} (h : ∀ l ∈ l0, l.length ≤ 1000000 ∧ ∀ s ∈ l, s.size ≤ 9223372036854775807) (k j : Nat) (hk : k < l0.length) (hj : j < (lineAt l0 k).length) : (nameAt (lineAt l0 k) j).size ≤ maxLen := by
  have h1 : lineAt l0 k ∈ l0 := by unfold lineAt; rw [List.getD_eq_getElem?_getD, List.getElem?_eq_getElem hk]; exact List.getElem_mem hk
  have h2 : nameAt (lineAt l0 k) j ∈ lineAt l0 k := by unfold nameAt; rw [List.getD_eq_getElem?_getD, List.getElem?_eq_getElem hj]; exact List.getElem_mem hj
  have := (h _ h1).2 _ h2
  unfold maxLen
  omega
theorem small_line {l0 : List (List ByteArray)} (h : ∀ l ∈ l0, l.length ≤ 1000000 ∧ ∀ s ∈ l, s.size ≤ 9223372036854775807) (k : Nat) (hk : k < l0.length) : (lineAt l0 k).length ≤ 1000000 := by
  have h1 : lineAt l0 k ∈ l0 := by unfold lineAt; rw [List.getD_eq_getElem?_getD, List.getElem?_eq_getElem hk]; exact List.getElem_mem hk
  exact (h _ h1).1
theorem empty_key {P : Program} {k : TypeId} (hk : P.underlying k = some .string) : keyOf P k (.string ⟨#[]⟩) = some (.string []) := WideMaps.keyOf_string_mk hk (by decide)

set_option maxHeartbeats 4000000 in
set_option maxRecDepth 100000 in
theorem where_calls (A0 : Option Addr) (c0 : Nat) (l0 : List (List ByteArray)) (w : World) (hr0 : Kd.C (Kd.slice 9 Kd.string) w A0 l0.length l0) (hc0 : l0.length ≤ c0) (hg : Small l0) :
    Calls Try.prog 32 #[.slice A0 l0.length c0] w fun e w' => ∃ (D : DataW Unit) (n : Nat), e = .returned (.map (some w.heap.size)) ∧
      w'.ownsGroups Try.prog 9 (w.heap.size + 1) 3 .i64 w.heap.size n D ∧ n < maxLen ∧ Holds l0 l0.length 0 D ∧ Below w.heap.size w w' := by
  have HR0 := Aside0.mk hr0
  have HC0 := Aside0.mk hc0
  clear hr0 hc0
  obtain ⟨hg1, hg2⟩ := hg
  have HG2 := Aside0.mk hg2
  clear hg2
  have hmm := @run_makeMap Try.prog
  obtain ⟨i0, hi, hz0, hz1, hz2⟩ := info_parts where_info
  have law := string_keyed Try.underlying9
  go_enter Try.func32, Try.ntmps32
  go_wp2
  go_loopw [12] (fun v12 wr => ∃ (k : Nat) (D : DataW Unit) (n : Nat), k ≤ l0.length ∧ v12 = .int .i64 k ∧ wr.ownsGroups Try.prog 9 (w.heap.size + 1) 3 .i64 w.heap.size n D ∧ n ≤ k * 1000001 ∧ Holds l0 k 0 D ∧ Below w.heap.size w wr ∧ w.heap.size + 1 ≤ wr.heap.size)
    (fun i _ => l0.length - (intOf i).toNat)
  case atStart => exact ⟨0, _, 0, Nat.zero_le _, rfl, World.ownsGroups_made _ _ _ _ _, by omega, Holds.start _, (Below.refl _ _).alloc (Nat.le_refl _) _, by simp⟩
  case round =>
    obtain ⟨k, D, n, hk, rfl, hown, hn, hD, hnx, hws⟩ := hrel
    by_cases hlt : k < l0.length
    · obtain ⟨ad, A1, c1, eA, hx, hl1, hK1⟩ := line_at HR0.out k hlt
      cases eA
      replace hx := (hnx.cell (World.block_lt_of_cell? w _ hx)).trans hx
      have HK1 := Aside0.mk hK1
      have HL1 := Aside0.mk hl1
      have hsm := small_line HG2.out k hlt
      clear hK1 hl1
      obtain ⟨wo, hwo⟩ : ∃ wo : World, wo = wr := ⟨_, rfl⟩
      subst hwo
      go_wp2
      go_loopw [20] (fun v20 wq => ∃ (j : Nat) (D1 : DataW Unit) (n1 : Nat) (D2 : DataW Unit) (n2 : Nat), j ≤ (lineAt l0 k).length ∧ v20 = .int .i64 j ∧ wq.ownsGroups Try.prog 9 (w.heap.size + 1) 3 .i64 w.heap.size n1 D1 ∧ n1 ≤ k * 1000001 + j ∧ Holds l0 k j D1 ∧
          wq.ownsMap Try.prog 9 (plainElem Try.prog 4) wo.heap.size n2 D2 ∧ n2 ≤ j ∧ Met (lineAt l0 k) j D2 ∧ Below w.heap.size w wq ∧ wo.heap.size + 1 ≤ wq.heap.size)
        (fun v20 _ => (lineAt l0 k).length - (intOf v20).toNat)
      case atStart => exact ⟨0, _, n, _, 0, Nat.zero_le _, rfl, groups_alloc hown _, Nat.le_trans hn (Nat.le_add_right _ _), hD, World.ownsMap_made _ _ _ _, Nat.le_refl _, Met.start _, below_alloc hnx _, by simp⟩
      case round =>
        obtain ⟨j, D1, n1, D2, n2, hj, rfl, hown1, hn1, hD1, hown2, hn2, hD2, hnx1, hws1⟩ := hrel
        by_cases hjt : j < (lineAt l0 k).length
        · obtain ⟨ad2, eA2, hx2⟩ := name_at HK1.out j hjt
          subst eA2
          replace hx2 := (hnx1.cell (World.block_lt_of_cell? w _ hx2)).trans hx2
          have hsz := small_name HG2.out k j hlt hjt
          have hlook := met_look hown2 hD2 law Try.underlying71 Try.underlying9 Try.underlying4 (where_zeroB wr) (nameAt (lineAt l0 k) j) hsz
          by_cases he : (nameAt (lineAt l0 k) j).toList = []
          · have he1 : ((nameAt (lineAt l0 k) j).toList != []) = false := by rw [he]; rfl
            have he2 : (nameAt (lineAt l0 k) j).toList.isEmpty = true := by rw [he]; rfl
            have HE := Aside0.mk he
            clear he
            go_wp2
            go_roundw
            case rel => exact ⟨j + 1, D1, n1, D2, n2, by omega, by go_num, hown1, by omega, hD1.skip hjt (.inl HE.out), hown2, by omega, hD2.skip hjt (.inl HE.out), hnx1, hws1⟩
            case measure => simp [intOf]; omega
          · have he1 : ((nameAt (lineAt l0 k) j).toList != []) = true := bne_iff_ne.mpr he
            have he2 : (!(nameAt (lineAt l0 k) j).toList.isEmpty) = true := by simpa using he
            have HE := Aside0.mk he
            clear he
            by_cases hm : namedIn (lineAt l0 k) (nameAt (lineAt l0 k) j) j = true
            · rw [hm] at hlook
              have HM := Aside0.mk hm
              clear hm
              go_wp2
              go_roundw
              case rel => exact ⟨j + 1, D1, n1, D2, n2, by omega, by go_num, hown1, by omega, hD1.skip hjt (.inr HM.out), hown2, by omega, hD2.skip hjt (.inr HM.out), hnx1, hws1⟩
              case measure => simp [intOf]; omega
            · have hm' : namedIn (lineAt l0 k) (nameAt (lineAt l0 k) j) j = false := by simpa using hm
              rw [hm'] at hlook
              have HM := Aside0.mk hm'
              clear hm hm'
              have hkey : keyOf Try.prog 9 (.string (nameAt (lineAt l0 k) j)) = some (keyL (nameAt (lineAt l0 k) j)) := WideMaps.keyOf_string_mk Try.underlying9 hsz
              obtain ⟨esm, clm, hbm⟩ := ownsMap_block hown2
              have HBM := Aside0.mk hbm
              clear hbm
              have HNE : Aside0 (w.heap.size ≠ wo.heap.size) := ⟨by omega⟩
              have hbd : n1 ≤ 2000000000000 := by omega
              go_wp2_with (first
                | (at_mapUpdate; refine wpList_mapUpdate_own _ rfl _ _ _ 71 rfl 9 4 law Try.underlying71 (plainElem Try.prog 4) wo.heap.size n2 D2 rfl hown2 (by unfold maxLen; omega) _ _ _ rfl rfl hkey (.lit (.bool true)) [] (plainElem_bool Try.underlying4 true) ?_; intro w1 hown2' hgrow2; clear hlook; have hw01 := hgrow2.size)
                | (at_lookup; refine wpList_lookup_groups _ rfl _ _ 66 rfl 9 57 3 .i64 law Try.underlying66 (where_zeroI _) (w.heap.size + 1) w.heap.size n1 D1 rfl (groups_beside hown1 hgrow2 HNE.out HBM.out) (by unfold maxLen; omega) _ _ rfl hkey ?_; intro v zs hat hoi hzl hback)
                | (at_builtin; refine wpList_append_own_at _ rfl _ _ 57 rfl (w.heap.size + 1) 3 i0 (.int .i64 0) 1 8 Try.underlying57 hi hz0 hz1 hz2 rfl (by decide) _ _ _ rfl (hoi.1.alloc _) ⟨w1.heap.size, 0, none⟩ 1 1 [.int .i64 k] rfl rfl (cell_one_new _ _ _) (ints_oneCell .i64 [(k : Int)]) (by unfold maxLen; omega) (by omega) (by simp; omega) ?_; intro v' w2 hown' hgrow hnil hloc)
                | (at_mapUpdate; refine wpList_mapUpdate_back _ rfl _ _ _ 66 (v' := v') rfl hback rfl rfl rfl ((World.grownBy_alloc _ _ _).trans hgrow) (hoi.appended hown' (WalkArith.wf_i64 (by omega))) (by simp; omega) (hloc.imp id (fun h => ⟨_, h, by simp⟩)) ?_; intro w3 hown3 hgrow3))
              have hall := (World.grownBy_alloc w1 _ _).trans hgrow
              obtain ⟨esm1, clm1, hbm1⟩ := ownsMap_block hown2'
              have hw12 := hall.size
              have hw23 := hgrow3.size
              have hm3 := (hown2'.kept hall (ints_not_map hoi hbm1)).kept hgrow3 (by simp; omega)
              rw [(hoi.appended hown' (WalkArith.wf_i64 (by omega))).datum_pos (by simp)] at hown3
              have hD3 := hD1.step hjt HE.out HM.out hoi hat
              have hM3 := hD2.step hjt HE.out
              have hB3 : Below w.heap.size w w3 := (hnx1.grown hgrow2 (by omega) (fun g hg => by cases hg; omega)).groups hoi hall hgrow3 (by omega) (by omega) (Nat.le_refl _)
              go_roundw
              case rel => exact ⟨j + 1, _, n1 + 1, _, n2 + 1, by omega, by go_num, hown3, by omega, hD3, hm3, by omega, hM3, hB3, by omega⟩
              case measure => simp [intOf]; omega
        · have hjl : j = (lineAt l0 k).length := by omega
          have HJL := Aside0.mk hjl
          clear hjl
          have hkey := empty_key (P := Try.prog) Try.underlying9
          go_wp2_with (first
            | (at_lookup; refine wpList_lookup_groups _ rfl _ _ 66 rfl 9 57 3 .i64 law Try.underlying66 (where_zeroI _) (w.heap.size + 1) w.heap.size n1 D1 rfl hown1 (by unfold maxLen; omega) _ _ rfl hkey ?_; intro v zs hat hoi hzl hback)
            | (at_builtin; refine wpList_append_own_at _ rfl _ _ 57 rfl (w.heap.size + 1) 3 i0 (.int .i64 0) 1 8 Try.underlying57 hi hz0 hz1 hz2 rfl (by decide) _ _ _ rfl (hoi.1.alloc _) ⟨wr.heap.size, 0, none⟩ 1 1 [.int .i64 k] rfl rfl (cell_one_new _ _ _) (ints_oneCell .i64 [(k : Int)]) (by unfold maxLen; omega) (by omega) (by simp; omega) ?_; intro v' w2 hown' hgrow hnil hloc)
            | (at_mapUpdate; refine wpList_mapUpdate_back _ rfl _ _ _ 66 (v' := v') rfl hback rfl rfl rfl ((World.grownBy_alloc _ _ _).trans hgrow) (hoi.appended hown' (WalkArith.wf_i64 (by omega))) (by simp; omega) (hloc.imp id (fun h => ⟨_, h, by simp⟩)) ?_; intro w3 hown3 hgrow3))
          have hall := (World.grownBy_alloc wr _ _).trans hgrow
          have hw12 := hall.size
          have hw23 := hgrow3.size
          rw [(hoi.appended hown' (WalkArith.wf_i64 (by omega))).datum_pos (by simp)] at hown3
          have hDk : Holds l0 k (lineAt l0 k).length D1 := by rw [← HJL.out]; exact hD1
          have hD3 := hDk.next hoi hat
          have hB3 : Below w.heap.size w w3 := hnx1.groups hoi hall hgrow3 (by omega) (by omega) (Nat.le_refl _)
          go_roundw
          case rel => exact ⟨k + 1, _, n1 + 1, by omega, by go_num, hown3, by omega, hD3, hB3, by omega⟩
          case measure => simp [intOf]; omega
    · have hkl : k = l0.length := by omega
      have HKL := Aside0.mk hkl
      clear hkl
      go_wp2
      go_ret
      exact ⟨D, n, rfl, hown, by unfold maxLen; omega, by rw [← HKL.out]; exact hD, hnx⟩
end Go.Proofs.Ytaalmkkekbhpnaa.Giv
