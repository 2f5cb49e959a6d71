/- Rows of bytes that a conversion has made: they are only read (a conversion marks its row). Conditions: as each theorem says. -/
import Derived.Test.YtfccpnpocfjbcaaWWords
import Derived.Test.YtfccpnpocfjbcaaWShare
import Derived.Lib.ConvBytes
set_option linter.unusedVariables false
set_option linter.unusedSimpArgs false
namespace Go.Proofs.Ytfccpnpocfjbcaa.Giv
open Go.RowKit Go.Proofs.YtfccpnpocfjbcaaW.PrintWords
namespace Kd
open Go.Proofs.YtfccpnpocfjbcaaW.PrintWords.Kd (F F_now F_step int)
/-- A row that is only read, and is the call's own. -/
def Z {α : Type} (d : Go.Proofs.YtfccpnpocfjbcaaW.PrintWords.Kd α) (e : Nat) (w : World) (base : Nat) (ok : Nat → Prop) (v : Value) (xs : List α) : Prop :=
  (∀ k, v.ownBlock = some k → ok k ∧ base ≤ k ∧ k < w.heap.size) ∧ ∃ A c, v = .slice A xs.length c ∧ xs.length ≤ c ∧ F d w (fun k => some k = v.ownBlock) A xs.length xs
section
variable {α : Type} {d : Go.Proofs.YtfccpnpocfjbcaaW.PrintWords.Kd α} {e base base' n c m N : Nat} {ok ok' : Nat → Prop} {w w1 w' W : World} {A : Option Addr} {u v : Value} {xs : List α}
theorem Z_step (h : Z d e w base ok v xs) (hm : ∀ k, ok k → k < w.heap.size → w1.heap[k]? = w.heap[k]?) : Z d e w1 base ok v xs := by
  obtain ⟨h1, A, c, rfl, hc, hF⟩ := h
  exact ⟨fun k hk => ⟨(h1 k hk).1, (h1 k hk).2.1, Go.Proofs.YtfccpnpocfjbcaaW.PrintWords.heap_lt (hm k (h1 k hk).1 (h1 k hk).2.2) (h1 k hk).2.2⟩, A, c, rfl, hc, F_step hF (fun k hk hlt => hm k (h1 k hk.symm).1 hlt)⟩
theorem Z_mono (h : Z d e w base ok v xs) (hok : ∀ k, ok k → ok' k) : Z d e w base ok' v xs := ⟨fun k hk => ⟨hok k (h.1 k hk).1, (h.1 k hk).2⟩, h.2⟩
theorem Z_lower (h : Z d e w base ok v xs) (hb : base' ≤ base) : Z d e w base' ok v xs := ⟨fun k hk => ⟨(h.1 k hk).1, Nat.le_trans hb (h.1 k hk).2.1, (h.1 k hk).2.2⟩, h.2⟩
theorem Z_below (h : Z d e w base ok v xs) (hb : Below w.heap.size w w1) : Z d e w1 base ok v xs := Z_step h (fun k _ hk => hb.block k hk)
theorem Z_alloc (h : Z d e w base ok v xs) (o : Obj) : Z d e (w.alloc o) base ok v xs := Z_below h (below_alloc (Below.refl _ _) o)
theorem Z_drewN (h : Z d e w base ok v xs) (m : Nat) : Z d e (w.drewN m) base ok v xs := Z_below h (pw_below_drewN (Below.refl _ _) m)
theorem Z_drew (h : Z d e w base ok v xs) : Z d e w.drew base ok v xs := Z_below h (below_drew (Below.refl _ _))
theorem Z_at (hq : w.drewN m = w') (h : Z d e w base ok v xs) : Z d e w' base ok v xs := by subst hq; exact Z_drewN h m
theorem Z_slice (h : Z d e w base ok v xs) : ∃ A c, v = .slice A xs.length c := let ⟨A, c, e, _⟩ := h.2; ⟨A, c, e⟩
theorem Z_reads' (h : Z d e w base ok (.slice A n c) xs) : n = xs.length ∧ n ≤ c ∧ d.C w A xs.length xs := by
  obtain ⟨_, A', c', he, hc, hF⟩ := h
  injection he with h1 h2 h3
  subst h1
  subst h2
  subst h3
  exact ⟨rfl, hc, F_now hF⟩
theorem Z_lt (h : Z d e w base ok v xs) : ∀ k, v.ownBlock = some k → k < w.heap.size := fun k hk => (h.1 k hk).2.2
theorem Z_base (h : Z d e w base ok v xs) : ∀ k, v.ownBlock = some k → base ≤ k := fun k hk => (h.1 k hk).2.1
theorem Z_bound (h : Z d e w base ok v xs) : Z d e w base (fun k => ok k ∧ k < w.heap.size) v xs := ⟨fun k hk => ⟨⟨(h.1 k hk).1, (h.1 k hk).2.2⟩, (h.1 k hk).2⟩, h.2⟩
theorem Z_new' (h : Z d e w1 W.heap.size ok v xs) (hlt : ∀ k, u.ownBlock = some k → k < W.heap.size) : Z d e w1 W.heap.size (fun k => ok k ∧ some k ≠ u.ownBlock) v xs :=
  ⟨fun k hk => ⟨⟨(h.1 k hk).1, fun e => by have := hlt k e.symm; have := (h.1 k hk).2.1; omega⟩, (h.1 k hk).2⟩, h.2⟩
theorem Z_elder' (hu : Z d e W base ok u xs) (hbase : ∀ k, v.ownBlock = some k → W.heap.size ≤ k) (hb : Below W.heap.size W w1) : Z d e w1 base (fun k => ok k ∧ some k ≠ v.ownBlock) u xs := by
  have h := Z_below hu hb
  exact ⟨fun k hk => ⟨⟨(h.1 k hk).1, fun e => by have := hbase k e.symm; have := (hu.1 k hk).2.2; omega⟩, (h.1 k hk).2⟩, h.2⟩
theorem Z_old (hu : Z d e W base ok u xs) (hb : Below W.heap.size W w1) : Z d e w1 base (fun k => ok k ∧ k < W.heap.size) u xs := by
  have h := Z_below hu hb
  exact ⟨fun k hk => ⟨⟨(h.1 k hk).1, (hu.1 k hk).2.2⟩, (h.1 k hk).2⟩, h.2⟩
theorem Z_told (h : Z d e w1 base (fun k => ok k ∧ k < N) u xs) (hbase : ∀ k, v.ownBlock = some k → N ≤ k) : Z d e w1 base (fun k => (ok k ∧ some k ≠ v.ownBlock) ∧ k < N) u xs :=
  ⟨fun k hk => ⟨⟨⟨(h.1 k hk).1.1, fun e => by have := hbase k e.symm; have := (h.1 k hk).1.2; omega⟩, (h.1 k hk).1.2⟩, (h.1 k hk).2⟩, h.2⟩
theorem Z_far (h : Z d e w base ok v xs) {p : Addr} (hok : ∀ k, ok k → k ≠ p.block) (u : Value) : Z d e (w.setCell p u) base ok v xs := Z_step h (fun k ho _ => Below.heap_setCell w p u k (hok k ho))
theorem Z_grown (h : Z d e w base ok v xs) {row : Option Nat} (hg : w.grownBy w1 row) (hok : ∀ k, ok k → some k ≠ row) : Z d e w1 base ok v xs := Z_step h (fun k ho hk => hg.block k hk (hok k ho))
theorem Z_keep (h : Z d e w base ok v xs) {g : Nat} (hk : KeepBut w w1 g none) (hok : ∀ k, ok k → k ≠ g) : Z d e w1 base ok v xs := Z_step h (fun k ho hlt => hk.2 k hlt (hok k ho) (by simp))
theorem Z_away (h : Z d e w base ok v xs) {g : Nat} (hok : ∀ k, ok k → k ≠ g) : some g ≠ v.ownBlock := fun e => hok g (h.1 g e.symm).1 rfl
end
/-- What a row's block holds is read, whatever else turns. -/
theorem F_of_row {w : World} {g t n c : Nat} {cs : Array Value} {fz : Nat × Nat} {xs : List Int} (h : w.heap[g]? = some (.cells cs t fz)) (hc : ∀ (j : Nat) (hj : j < xs.length), cs[j]? = some (.int .u8 xs[j])) (hm : xs.length ≤ 9223372036854775807) :
    F (int .u8) w (fun k => some k = (Value.slice (some ⟨g, 0, none⟩) n c).ownBlock) (some ⟨g, 0, none⟩) xs.length xs := by
  intro W' hW
  have h1 := hW g (by simp [Value.ownBlock]) (blk_lt h)
  rw [h] at h1
  refine Go.Proofs.YtfccpnpocfjbcaaW.PrintWords.Kd.C_of_reads (enc := Value.int .u8) (d := (0 : Int)) (h1 := fun _ => rfl) ⟨rfl, hm, fun _ => ⟨_, rfl, fun j hj => ?_⟩⟩
  rw [add_plain]
  have h2 := hc j hj
  simp only [World.cell?, h1, Option.bind_some]
  simpa [List.getD_eq_getElem?_getD, List.getElem?_eq_getElem hj] using h2
section
variable {P : Program} {ops : Array Oper} {rest : List Oper} {o : Oper} {a : Act} {Q : Exit → Act → World → Prop}
/-- '[]byte(s)', s a string. -/
theorem Z_bytes {w0 W : World} (base e src dst : Nat) (hgd : o.guard = none) {N : Tmp} (_hd : o.dst = some N) {x : Operand} (s : ByteArray) (hop : o.op = .convert src dst x) (hx : a.eval x = .string s) {u : TypeDesc} (hs : P.underlying src = some u) (hd : P.underlying dst = some (.slice e)) (he : P.underlying e = some (.int .u8))
    (hm : s.size ≤ 9223372036854775807) (HB : Below base w0 W) (hbase : base ≤ W.heap.size)
    (h : ∀ v1 w1, Z (int .u8) e w1 base (fun _ => True) v1 (bytesOf s) → Below base w0 w1 → W.grownBy w1 none → (∃ b, v1.ownBlock = some b ∧ W.heap.size ≤ b) → wpList P ops Q rest (a.put o.dst v1) w1) : wpList P ops Q (o :: rest) a W := by
  have hrun : (execOp a.eval o).run P W = .ok (.value (.slice (some ⟨W.heap.size, 0, none⟩) s.size (grownCap W s.size 0 e))) (Lib.bytesWorld W e s) := by
    unfold execOp
    simp [hop, hx, print_bytes src dst e hs hd he s W, Result.andThen]
  have hn := Lib.bytesWorld_at_new W e s
  refine Go.Proofs.YtfccpnpocfjbcaaW.PrintWords.Kd.event_run hgd hrun (h _ _ ⟨fun k hk => ?_, _, _, by rw [bytesOf_length], ?_, ?_⟩ (bytes_below HB hbase e s) ⟨rfl, rfl, rfl, by rw [Lib.bytesWorld_size]; omega, fun k hk _ => Lib.bytesWorld_at_old W e s k hk⟩ ⟨W.heap.size, by simp [Value.ownBlock], Nat.le_refl _⟩)
  · have : W.heap.size = k := by simpa [Value.ownBlock] using hk
    subst this
    exact ⟨trivial, hbase, blk_lt hn⟩
  · rw [bytesOf_length]
    exact grownCap_ge W s.size 0 e
  · rw [← bytesOf_length]
    refine F_of_row hn (fun j hj => ?_) (by rw [bytesOf_length]; exact hm)
    have hj' : j < s.data.size := by rw [bytesOf_length] at hj; exact hj
    rw [Lib.bytesCells, Array.getElem?_append_left (by simpa using hj')]
    simp only [Array.getElem?_map, Array.getElem?_eq_getElem hj', bytesOf, List.getElem_map, Array.getElem_toList, Option.map_some]
/-- '[]byte{..}' as the translation has '[]byte("..")': a literal, and its conversion. -/
theorem Z_lit {w0 W : World} (base e : Nat) (hgd : o.guard = none) {N : Tmp} (_hd : o.dst = some N) {o2 : Oper} (T : Nat) {y : Operand} {xs : List Int} {inner : List Value}
    (hrun : (execOp a.eval o).run P W = .ok (.value (.slice (some ⟨W.heap.size, 0, none⟩) xs.length xs.length)) (W.alloc (.cells inner.toArray e)))
    (hin : inner = xs.map (Value.int .u8)) (hgd2 : o2.guard = none) (hop2 : o2.op = .convert T T y) (hy : ∀ v1, (a.put o.dst v1).eval y = v1) (hd : P.underlying T = some (.slice e)) (he : P.underlying e = some (.int .u8))
    (HB : Below base w0 W) (hbase : base ≤ W.heap.size) (hm : xs.length ≤ 9223372036854775807)
    (h : ∀ v1 w1, Z (int .u8) e w1 base (fun _ => True) v1 xs → Below base w0 w1 → W.grownBy w1 none → (∃ b, v1.ownBlock = some b ∧ W.heap.size ≤ b) → wpList P ops Q rest ((a.put o.dst v1).put o2.dst v1) w1) : wpList P ops Q (o :: o2 :: rest) a W := by
  subst hin
  have hrun2 : (execOp (a.put o.dst (.slice (some ⟨W.heap.size, 0, none⟩) xs.length xs.length)).eval o2).run P (W.alloc (.cells (xs.map (Value.int .u8)).toArray e)) = .ok (.value (.slice (some ⟨W.heap.size, 0, none⟩) xs.length xs.length)) ((W.alloc (.cells (xs.map (Value.int .u8)).toArray e)).freeze ⟨W.heap.size, xs.length, none⟩ 1) := by
    have hsh : (W.alloc (.cells (xs.map (Value.int .u8)).toArray e)).shape? W.heap.size = some (e, xs.length) := by
      simp [World.shape?, World.alloc, -World.alloc_eq]
    unfold execOp
    simp [hop2, hy, convert, run_underlying hd, run_underlying he, markStringish, hsh, Result.andThen]
  have hn : ((W.alloc (.cells (xs.map (Value.int .u8)).toArray e)).freeze ⟨W.heap.size, xs.length, none⟩ 1).heap[W.heap.size]? = some (.cells (xs.map (Value.int .u8)).toArray e (xs.length, xs.length + 1)) := by
    simp [World.freeze, World.alloc, -World.alloc_eq]
    rw [Array.getElem_modify_self]
    simp
  have hold : ∀ j, j < W.heap.size → ((W.alloc (.cells (xs.map (Value.int .u8)).toArray e)).freeze ⟨W.heap.size, xs.length, none⟩ 1).heap[j]? = W.heap[j]? := fun j hj => by
    have h1 : W.heap.size ≠ j := by omega
    simp [World.freeze, World.alloc, -World.alloc_eq, Array.getElem?_modify, Array.getElem?_push, h1, Ne.symm h1]
  have hsz : ((W.alloc (.cells (xs.map (Value.int .u8)).toArray e)).freeze ⟨W.heap.size, xs.length, none⟩ 1).heap.size = W.heap.size + 1 := by
    simp [World.freeze, World.alloc, -World.alloc_eq]
  refine Go.Proofs.YtfccpnpocfjbcaaW.PrintWords.Kd.event_run hgd hrun (Go.Proofs.YtfccpnpocfjbcaaW.PrintWords.Kd.event_run hgd2 hrun2 (h _ _ ⟨fun k hk => ?_, _, _, rfl, Nat.le_refl _, ?_⟩ (HB.trans ⟨rfl, rfl, rfl, by rw [hsz]; omega, fun k hk => hold k (by omega)⟩) ⟨rfl, rfl, rfl, by rw [hsz]; omega, fun k hk _ => hold k hk⟩ ⟨W.heap.size, by simp [Value.ownBlock], Nat.le_refl _⟩))
  · have : W.heap.size = k := by simpa [Value.ownBlock] using hk
    subst this
    exact ⟨trivial, hbase, blk_lt hn⟩
  · exact F_of_row hn (fun j hj => by simp [hj]) hm
end
end Kd
end Go.Proofs.Ytfccpnpocfjbcaa.Giv
