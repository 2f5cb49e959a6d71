/- LineFoursCardSaid, part 2 of 13: contracts of the program's functions, the words that they use, and the plain laws on what they compute. Conditions: none beyond what the statements say. -/
import Derived.Test.YtofdhdafabmhmaaDoorKL40
import Derived.Tactics
import Derived.WalkKit
import Derived.KernelRfl
import Derived.Below
import Derived.SizedLaws
import Derived.ChangeSlices
import Derived.ProofKit
import Derived.OpenShut
import Derived.Carry
import Derived.Deep.Slices
import Derived.WideShapes
import Derived.Laws.StructEq
import Derived.Lib.ConvBytes
import Derived.Laws.CopyRow
set_option linter.unusedVariables false
set_option linter.unusedSimpArgs false
section
/-! ### 46. Values that share: what is only read, with the blocks it lies in (its footprint 'ok'): Foot, F (a row that is read), FK (an element's cells) -/
namespace Go.Proofs.YtofdhdafabmhmaaDoorW.PrintWords
open Go.RowKit
/-- P holds in W and in every world that has W's blocks of ok. -/
def Foot (P : World → Prop) (W : World) (ok : Nat → Prop) : Prop := ∀ W' : World, (∀ k, ok k → k < W.heap.size → W'.heap[k]? = W.heap[k]?) → P W'
theorem heap_lt {W W1 : World} {k : Nat} (h : W1.heap[k]? = W.heap[k]?) (hlt : k < W.heap.size) : k < W1.heap.size := by
  rw [Array.getElem?_eq_getElem hlt] at h; exact (Array.getElem?_eq_some_iff.1 h).1
namespace Foot
variable {P Q : World → Prop} {W W1 : World} {ok ok' : Nat → Prop}
theorem now (h : Foot P W ok) : P W := h W (fun _ _ _ => rfl)
theorem mono (h : Foot P W ok) (hok : ∀ k, ok k → ok' k) : Foot P W ok' := fun W' hW => h W' (fun k hk hlt => hW k (hok k hk) hlt)
theorem bound (h : Foot P W ok) : Foot P W (fun k => ok k ∧ k < W.heap.size) := fun W' hW => h W' (fun k hk hlt => hW k ⟨hk, hlt⟩ hlt)
theorem step (h : Foot P W ok) (hm : ∀ k, ok k → k < W.heap.size → W1.heap[k]? = W.heap[k]?) : Foot P W1 ok := fun W' hW => h W' (fun k hk hlt => (hW k hk (heap_lt (hm k hk hlt) hlt)).trans (hm k hk hlt))
theorem imp (h : Foot P W ok) (hi : ∀ W', P W' → Q W') : Foot Q W ok := fun W' hW => hi W' (h W' hW)
/-- Moved, and still elder than what is new since W. -/
theorem old (h : Foot P W ok) (hb : Below W.heap.size W W1) : Foot P W1 (fun k => ok k ∧ k < W.heap.size) := (h.bound).step (fun k _ hlt => hb.block k hlt)
end Foot
namespace Kd
/-- A row that is only read: what it leads to lies in ok. -/
def F {α : Type} (d : Kd α) (W : World) (ok : Nat → Prop) (A : Option Addr) (n : Nat) (xs : List α) : Prop := Foot (fun W => d.C W A n xs) W ok
/-- An element's cells: what they lead to lies in ok. -/
def FK {α : Type} (d : Kd α) (W : World) (ok : Nat → Prop) (x : α) (c : List Value) : Prop := Foot (fun W => d.K W x c) W ok
section
variable {α β : Type} {d : Kd α} {e base n n' cc g N : Nat} {ok ok' okp S : Nat → Prop} {w w0 w1 W W1 : World} {A A' : Option Addr} {u v v1 : Value} {xs : List α} {xs' : List β} {d' : Kd β} {x : α} {c : List Value}
theorem F_now (h : F d W ok A n xs) : d.C W A n xs := Foot.now h
theorem F_mono (h : F d W ok A n xs) (hok : ∀ k, ok k → ok' k) : F d W ok' A n xs := Foot.mono h hok
theorem F_bound (h : F d W ok A n xs) : F d W (fun k => ok k ∧ k < W.heap.size) A n xs := Foot.bound h
theorem F_step (h : F d W ok A n xs) (hm : ∀ k, ok k → k < W.heap.size → W1.heap[k]? = W.heap[k]?) : F d W1 ok A n xs := Foot.step h hm
theorem F_imp (h : F d W ok A n xs) (hi : ∀ W', d.C W' A n xs → d'.C W' A' n' xs') : F d' W ok A' n' xs' := Foot.imp h hi
theorem F_below (h : F d W ok A n xs) (hb : Below W.heap.size W W1) : F d W1 ok A n xs := F_step h (fun k _ hlt => hb.block k hlt)
theorem F_alloc (h : F d W ok A n xs) (o : Obj) : F d (W.alloc o) ok A n xs := F_below h (below_alloc (Below.refl _ _) o)
theorem F_drew (h : F d W ok A n xs) : F d W.drew ok A n xs := F_below h (below_drew (Below.refl _ _))
theorem F_drewN (h : F d W ok A n xs) (m : Nat) : F d (W.drewN m) ok A n xs := F_below h (pw_below_drewN (Below.refl _ _) m)
theorem F_nil (d : Kd α) (W : World) (ok : Nat → Prop) : F d W ok none ([] : List α).length [] := fun W' _ => C_nil d W'
/-- Behind an append to v (it left v1): what lies apart from v lies apart from v1. -/
theorem F_after (h : F d W (fun k => ok k ∧ some k ≠ v.ownBlock) A n xs) (hg : W.grownBy W1 v.ownBlock) (hat : v1.ownBlock = v.ownBlock ∨ ∃ b, v1.ownBlock = some b ∧ W.heap.size ≤ b) : F d W1 (fun k => ok k ∧ some k ≠ v1.ownBlock) A n xs := by
  refine F_mono (Foot.step (F_bound h) (fun k hk hlt => hg.block k hlt hk.1.2)) (fun k hk => ⟨hk.1.1, ?_⟩)
  rcases hat with hat | ⟨b, hb, hle⟩
  · rw [hat]; exact hk.1.2
  rw [hb]; intro he; injection he with he
  have := hk.2
  omega
theorem FK_of_M (h : d.M W base ok x c) : FK d W ok x c := fun _ hW => d.K_of_M (M_step h hW)
end
end Kd
end Go.Proofs.YtofdhdafabmhmaaDoorW.PrintWords
end
section
/-! ### 47. N: a row of the call's own whose elements share (what they lead to is only read) -/
namespace Go.Proofs.YtofdhdafabmhmaaDoorW.PrintWords
open Go.RowKit
namespace Kd
/-- The cells one behind the other, element by element. -/
def chunks (sz : Nat) (n : Nat) (inner : List Value) : List (List Value) := (List.range n).map fun j => (inner.drop (j * sz)).take sz
theorem chunks_length (sz n : Nat) (inner : List Value) : (chunks sz n inner).length = n := by simp [chunks]
theorem chunks_at {sz n : Nat} {inner : List Value} {j : Nat} (hj : j < n) : (chunks sz n inner)[j]? = some ((inner.drop (j * sz)).take sz) := by simp [chunks, hj]
theorem chunks_get {sz n : Nat} {inner : List Value} {j : Nat} {c : List Value} (h : (chunks sz n inner)[j]? = some c) : c = (inner.drop (j * sz)).take sz := by
  have hj : j < n := by have := (List.getElem?_eq_some_iff.1 h).1; rwa [chunks_length] at this
  rw [chunks_at hj] at h; injection h with h
  exact h.symm
theorem reps_raw {α : Type} {Rr : α → List Value → Prop} {sz : Nat} {xs : List α} {inner : List Value} (h : Reps Rr sz xs inner) (hR : ∀ x c, Rr x c → c.length = sz ∧ ∀ u ∈ c, u.oneCell' = true) : Reps (fun x cs => cs = x ∧ cs.length = sz ∧ ∀ u ∈ cs, u.oneCell' = true) sz (chunks sz xs.length inner) inner := by
  refine ⟨by rw [chunks_length]; exact h.1, fun j p hj => ?_⟩
  have hjl : j < xs.length := by have := (List.getElem?_eq_some_iff.1 hj).1; rwa [chunks_length] at this
  have hp := chunks_get hj; exact ⟨hp.symm, hR _ _ (h.2 j _ (List.getElem?_eq_getElem hjl))⟩
section
variable {α : Type} {d : Kd α} {e base n cc g : Nat} {ok ok' okp S : Nat → Prop} {w w1 W W1 : World} {A : Option Addr} {u v v1 : Value} {xs : List α} {x : α} {c : List Value}
/-- A row of elements (type e) of the call's own; what the elements lead to is only read, and is not this row. -/
def N {α : Type} (d : Kd α) (e : Nat) (w : World) (base : Nat) (ok : Nat → Prop) (v : Value) (xs : List α) : Prop :=
  (∀ k, v.ownBlock = some k → ok k) ∧ ∃ rows : List (List Value), rows.length = xs.length ∧ (raw d.sz).R e w base (fun k => some k = v.ownBlock) v rows ∧ ∀ (j : Nat) (x : α) (c : List Value), xs[j]? = some x → rows[j]? = some c → FK d w (fun k => ok k ∧ some k ≠ v.ownBlock) x c
theorem R_N (h : d.R e w base ok v xs) : N d e w base ok v xs := by
  obtain ⟨h0, inner, ho, hr⟩ := h; refine ⟨h0, chunks d.sz xs.length inner, chunks_length _ _ _, ⟨fun k hk => hk.symm, inner, by rw [chunks_length]; exact ho, reps_raw hr (fun x c hp => ⟨d.K_len (d.K_of_M hp), d.K_one (d.K_of_M hp)⟩)⟩, fun j x c hx hc => ?_⟩
  rw [chunks_get hc]; exact FK_of_M (hr.2 j x hx)
theorem N_nil (d : Kd α) (e : Nat) (w : World) (base : Nat) (ok : Nat → Prop) : N d e w base ok (.slice none 0 0) [] := R_N (R_nil _ _ _ _ _)
end
end Kd
end Go.Proofs.YtofdhdafabmhmaaDoorW.PrintWords
end
section
/-! ### 48. N's events: append, a whole row appended, zeros appended, literals, make, stores, cuts, an element taken out -/
namespace Go.Proofs.YtofdhdafabmhmaaDoorW.PrintWords
open Go.RowKit
namespace Kd
section
variable {α : Type} {d : Kd α} {e base n cap g : Nat} {ok ok' okp : Nat → Prop} {w w1 W : World} {v v1 : Value} {xs ys : List α}
end
section
variable {P : Program} {ops : Array Oper} {rest : List Oper} {o : Oper} {a : Act} {Q : Exit → Act → World → Prop} {Kc : Act → World → Prop} {α : Type}
end
end Kd
end Go.Proofs.YtofdhdafabmhmaaDoorW.PrintWords
end
section
-- PRINTED WORDS (module Derived/Print/More.lean): go-gate-2's additions: an AI agent of Go's test side, Tue Nov 17 2026; no person has read it. Lean checks it.
namespace Go.Proofs.YtofdhdafabmhmaaDoorW.PrintMore
open Go.RowKit Go.Proofs.YtofdhdafabmhmaaDoorW.PrintWords
namespace Kd
open Go.Proofs.YtofdhdafabmhmaaDoorW.PrintWords.Kd
end Kd

namespace Kd
open Go.Proofs.YtofdhdafabmhmaaDoorW.PrintWords.Kd
section
variable {α : Type} {d : Kd α} {e base g N : Nat} {ok : Nat → Prop} {W w1 : World} {u v : Value} {xs : List α}
end
end Kd
/-- 'max' and 'min' of two whole numbers. -/
theorem max2_int (k k' : IntKind) (x y : Int) : Builtin.max2 (.int k x) (.int k' y) = pure (.int k (if x < y then y else x)) := by simp only [Builtin.max2, gt_iff_lt]
theorem min2_int (k k' : IntKind) (x y : Int) : Builtin.min2 (.int k x) (.int k' y) = pure (.int k (if y < x then y else x)) := by simp only [Builtin.min2]
theorem max_two (ats : Array TypeId) (ty : TypeId) (a b : Value) : Builtin.max_ ats ty #[a, b] = (Builtin.max2 a b >>= fun s => pure s) := by simp only [Builtin.max_, List.foldlM_cons, List.foldlM_nil]
theorem min_two (ats : Array TypeId) (ty : TypeId) (a b : Value) : Builtin.min_ ats ty #[a, b] = (Builtin.min2 a b >>= fun s => pure s) := by simp only [Builtin.min_, List.foldlM_cons, List.foldlM_nil]
theorem max_three (ats : Array TypeId) (ty : TypeId) (a b c : Value) : Builtin.max_ ats ty #[a, b, c] = (Builtin.max2 a b >>= fun s => Builtin.max2 s c >>= fun s => pure s) := by simp only [Builtin.max_, List.foldlM_cons, List.foldlM_nil]
theorem min_three (ats : Array TypeId) (ty : TypeId) (a b c : Value) : Builtin.min_ ats ty #[a, b, c] = (Builtin.min2 a b >>= fun s => Builtin.min2 s c >>= fun s => pure s) := by simp only [Builtin.min_, List.foldlM_cons, List.foldlM_nil]
theorem max_four (ats : Array TypeId) (ty : TypeId) (a b c d : Value) : Builtin.max_ ats ty #[a, b, c, d] = (Builtin.max2 a b >>= fun s => Builtin.max2 s c >>= fun s => Builtin.max2 s d >>= fun s => pure s) := by simp only [Builtin.max_, List.foldlM_cons, List.foldlM_nil]
theorem min_four (ats : Array TypeId) (ty : TypeId) (a b c d : Value) : Builtin.min_ ats ty #[a, b, c, d] = (Builtin.min2 a b >>= fun s => Builtin.min2 s c >>= fun s => Builtin.min2 s d >>= fun s => pure s) := by simp only [Builtin.min_, List.foldlM_cons, List.foldlM_nil]
end Go.Proofs.YtofdhdafabmhmaaDoorW.PrintMore
namespace Go.Proofs.YtofdhdafabmhmaaDoorW.PrintWords
open Go.RowKit
section
variable {P : Program} {ops : Array Oper} {rest : List Oper} {o : Oper} {a : Act} {Q : Exit → Act → World → Prop} {W : World}
/-- The operation is a call of this function (a cheap look ahead of a dear step). -/
theorem gate_callee {f : FuncId} {as : Array Operand} {ts : Array TypeId} (_ho : o.op = .call { callee := .value (.func f), args := as, argTypes := ts }) (h : wpList P ops Q (o :: rest) a W) : wpList P ops Q (o :: rest) a W := h
/-- The operation is a builtin over these places. -/
theorem gate_builtin {b : Builtin} {xs : Array Operand} {ts : Array TypeId} (_ho : o.op = .call { callee := .builtin b, args := xs, argTypes := ts }) (h : wpList P ops Q (o :: rest) a W) : wpList P ops Q (o :: rest) a W := h
end
/-- The greater of two whole numbers, as Go's max tells it. -/
def mx (a b : Int) : Int := if a < b then b else a
/-- The smaller of two whole numbers, as Go's min tells it. -/
def mn (a b : Int) : Int := if b < a then b else a
namespace Kd
section
variable {α : Type} {d : Kd α} {e base : Nat} {ok : Nat → Prop} {W w1 : World} {v : Value} {xs : List α}
end
section
variable {α : Type} {d : Kd α} {e base g n cap : Nat} {ok oki okp : Nat → Prop} {W : World} {xs : List α} {i : Int} {c : List Value}
end
section
variable {α : Type} {d : Kd α} {e base b b' g N : Nat} {ok ok1 : Nat → Prop} {W W2 w1 : World} {u v : Value} {xs ys : List α} {S : Nat → Prop}
theorem R_reok (hE : d.E = []) (h : d.R e W base ok1 v xs) (hok : ∀ k, v.ownBlock = some k → ok k) : d.R e W base ok v xs := R_mono (R_tight hE h) (fun k hk => hok k hk.symm)
end
end Kd
end Go.Proofs.YtofdhdafabmhmaaDoorW.PrintWords
namespace Go.Proofs.YtofdhdafabmhmaaDoorW.PrintWords
open Go.RowKit
namespace Kd
/-- A row that is only read, told by its value: its form, its length, what it leads to (in ok). e and base say nothing; they make it as the others are. -/
def V {α : Type} (d : Kd α) (_e : Nat) (W : World) (_base : Nat) (ok : Nat → Prop) (v : Value) (xs : List α) : Prop := ∃ A c, v = .slice A xs.length c ∧ xs.length ≤ c ∧ F d W ok A xs.length xs
section
variable {α β : Type} {d : Kd α} {e base base' n m c g N' lo hi : Nat} {ok ok' S : Nat → Prop} {w W w1 : World} {A : Option Addr} {ad : Addr} {u v v1 : Value} {xs : List α}
theorem V_map (h : V d e W base ok v xs) (hF : ∀ A, F d W ok A xs.length xs → F d w1 ok' A xs.length xs) : V d e w1 base' ok' v xs := by
  obtain ⟨A, c, hv, hl, hf⟩ := h; exact ⟨A, c, hv, hl, hF A hf⟩
theorem V_mk (hl : xs.length ≤ c) (hf : F d W ok A xs.length xs) : V d e W base ok (.slice A xs.length c) xs := ⟨A, c, rfl, hl, hf⟩
theorem V_slice (h : V d e W base ok v xs) : ∃ A c, v = .slice A xs.length c := by
  obtain ⟨A, c, hv, _⟩ := h; exact ⟨A, c, hv⟩
theorem V_at (h : V d e W base ok (.slice A n c) xs) : n = xs.length ∧ n ≤ c ∧ F d W ok A xs.length xs := by
  obtain ⟨A', c', hv, hl, hf⟩ := h; injection hv with ha hn hc
  subst ha; subst hc; exact ⟨hn, by rw [hn]; exact hl, hf⟩
theorem V_reads' (h : V d e W base ok (.slice A n c) xs) : n = xs.length ∧ n ≤ c ∧ d.C W A xs.length xs := ⟨(V_at h).1, (V_at h).2.1, F_now (V_at h).2.2⟩
theorem V_nil (d : Kd α) (e : Nat) (W : World) (base : Nat) (ok : Nat → Prop) : V d e W base ok (.slice none 0 0) [] := ⟨none, 0, rfl, Nat.le_refl _, F_nil d W ok⟩
theorem V_mono (h : V d e W base ok v xs) (hok : ∀ k, ok k → ok' k) : V d e W base ok' v xs := V_map h (fun _ hf => F_mono hf hok)
theorem V_alloc (h : V d e W base ok v xs) (o : Obj) : V d e (W.alloc o) base ok v xs := V_map h (fun _ hf => F_alloc hf o)
theorem V_drew (h : V d e W base ok v xs) : V d e W.drew base ok v xs := V_map h (fun _ hf => F_drew hf)
theorem V_drewN (h : V d e W base ok v xs) (m : Nat) : V d e (W.drewN m) base ok v xs := V_map h (fun _ hf => F_drewN hf m)
theorem V_after (h : V d e W base (fun k => ok k ∧ some k ≠ u.ownBlock) v xs) (hg : W.grownBy w1 u.ownBlock) (hat : v1.ownBlock = u.ownBlock ∨ ∃ b, v1.ownBlock = some b ∧ W.heap.size ≤ b) : V d e w1 base (fun k => ok k ∧ some k ≠ v1.ownBlock) v xs := V_map h (fun _ hf => F_after hf hg hat)
theorem V_afterv (h : V d e W base (fun k => ok k ∧ some k ≠ v.ownBlock) u xs) (hg : W.grownBy w1 v.ownBlock) (hat : v1.ownBlock = v.ownBlock ∨ ∃ b, v1.ownBlock = some b ∧ W.heap.size ≤ b) : V d e w1 base (fun k => ok k ∧ some k ≠ v1.ownBlock) u xs := V_after h hg hat
theorem F_cut (h : F d W ok A xs.length xs) (hm : m ≤ xs.length) (hc : xs.length ≤ c) : F d W ok (if c = m then A else A.map (·.add (m * d.sz))) (xs.drop m).length (xs.drop m) := F_imp h (fun _ hC => C_drop hC hm hc)
theorem R_newM {M : Nat → Prop} (h : d.R e w1 W.heap.size ok v xs) (hle : w.heap.size ≤ W.heap.size) (hM : ∀ k, w.heap.size ≤ k → M k) : d.R e w1 W.heap.size (fun k => M k ∧ ok k) v xs := R_mono (R_bound h) (fun k hk => ⟨hM k (Nat.le_trans hle hk.2.1), hk.1⟩)
end
end Kd
end Go.Proofs.YtofdhdafabmhmaaDoorW.PrintWords
end
section
/- Short words for the walks' small closing steps: each takes what is still owed by looking at what is known where it is used. Conditions: none. -/
namespace Go.Proofs.YtofdhdafabmhmaaDoor.Opn
open Go.RowKit Go.Proofs.YtofdhdafabmhmaaDoorW.PrintWords Go.Proofs.YtofdhdafabmhmaaDoorW.PrintLast Go.Proofs.YtofdhdafabmhmaaDoorW.PrintMore

/-- All that lay there lies there still. -/
theorem bel_ {P : Prop} (h : P := by repeat (first | (with_reducible first | exact HB.out | apply below_alloc | apply pw_below_drewN | apply below_drew1 | refine below_set ?_ (Aside0.out (by with_reducible assumption))) | exact HB.out)) : P := h
/-- A block holds what it held. -/
theorem blk_ {P : Prop} (h : P := by (with_reducible repeat (first | refine blk_drewN ?_ _ | refine blk_drew ?_ | refine blk_alloc ?_ _)); first | (with_reducible exact Aside0.out (by assumption)) | exact Aside0.out (by assumption)) : P := h
theorem blb_ {w0 W w1 : World} {g : Nat} {o : Obj} (b : Aside0 (w0.heap[g]? = some o)) (hb : Below W.heap.size W w1) (h : W.heap[g]? = some o := by (with_reducible repeat (first | refine blk_drewN ?_ _ | refine blk_drew ?_ | refine blk_alloc ?_ _)); first | (with_reducible exact Aside0.out (by assumption)) | exact Aside0.out (by assumption)) : Aside0 (w1.heap[g]? = some o) := ⟨blk_below h hb⟩
theorem bsz_ {w W : World} {g : Nat} (hg : g = W.heap.size) (h : Below w.heap.size w W := by repeat (first | (with_reducible first | exact HB.out | apply below_alloc | apply pw_below_drewN | apply below_drew1 | refine below_set ?_ (Aside0.out (by with_reducible assumption))) | exact HB.out)) : w.heap.size ≤ g := by
  rw [hg]; exact below_size h
theorem bne_ {w0 W : World} {g g' : Nat} {o : Obj} (b : Aside0 (w0.heap[g]? = some o)) (hg : g' = W.heap.size) (h : W.heap[g]? = some o := by (with_reducible repeat (first | refine blk_drewN ?_ _ | refine blk_drew ?_ | refine blk_alloc ?_ _)); first | (with_reducible exact Aside0.out (by assumption)) | exact Aside0.out (by assumption)) : g ≠ g' := by
  rw [hg]; exact Nat.ne_of_lt (blk_lt h)
theorem bng_ {w0 W : World} {g g' : Nat} {o : Obj} (b : Aside0 (w0.heap[g]? = some o)) (hg : g' = W.heap.size) (h : W.heap[g]? = some o := by (with_reducible repeat (first | refine blk_drewN ?_ _ | refine blk_drew ?_ | refine blk_alloc ?_ _)); first | (with_reducible exact Aside0.out (by assumption)) | exact Aside0.out (by assumption)) : g' ≠ g := by
  rw [hg]; exact Nat.ne_of_gt (blk_lt h)
theorem goa_ {P : Prop} (h : P := by (try simp only [List.map_toArray, List.map_cons, List.map_nil]); first | done | rfl | (simp only [List.length_drop, List.length_take]; rfl)) : P := h
theorem rsl_ {P : Prop} (h : P := by first | rfl | (simp [errW_none, errW_some] <;> rfl) | (simp [*, errW_none, errW_some] <;> rfl)) : P := h
theorem rfs_ {P : Prop} (h : P := by first | rfl | (simp; done) | (simp [*]; done)) : P := h
theorem ole_ {P : Prop} (h : P := by first | omega | exact Nat.le_refl _) : P := h
end Go.Proofs.YtofdhdafabmhmaaDoor.Opn
end
section
/- More short words: chains of stores at other blocks, what a block's cells hold. Conditions: none. -/
namespace Go.Proofs.YtofdhdafabmhmaaDoor.Opn
open Go.RowKit Go.Proofs.YtofdhdafabmhmaaDoorW.PrintWords Go.Proofs.YtofdhdafabmhmaaDoorW.PrintLast Go.Proofs.YtofdhdafabmhmaaDoorW.PrintMore
/-- A block holds what it held, but for the stores into it; other blocks' stores pass it by. -/
theorem bch_ {P : Prop} (h : P := by (repeat (first | (with_reducible refine blk_drewN ?_ _) | (with_reducible refine blk_drew ?_) | (with_reducible refine blk_alloc ?_ _) | ((with_reducible apply blk_far); case hp => with_reducible exact Aside0.out (by assumption)) | (with_reducible apply blk_put) | (with_reducible exact Aside0.out (by assumption)))); all_goals (first | ((simp only [List.setIfInBounds_toArray, List.set_cons_zero, List.set_cons_succ]); done) | ((simp only [List.setIfInBounds_toArray, List.set_cons_zero, List.set_cons_succ]); rfl) | rfl)) : P := h
theorem oaw_ {P Q : Prop} (q : Q) (h : Q → P := by intro h_; first | exact Kd.own_blk h_ | (rw [add_block]; exact Kd.own_blk h_) | (show (Addr.add _ _).block ≠ _; rw [add_block]; exact Kd.own_blk h_) | (dsimp only; exact Kd.own_blk h_)) : P := h q
/-- A row that came in is read as before. -/
theorem cin_ {P : Prop} (h : P := by repeat (first | exact (Kd.C_below HR0.out HB.out) | exact HR0.out | (with_reducible refine Kd.C_alloc ?_ _) | (with_reducible refine Kd.C_drewN ?_ _) | (with_reducible refine Kd.C_drew ?_))) : P := h
theorem row_ {P Q : Prop} (x : Aside0 Q) (h : Q → P := by intro h_; (with_reducible repeat (first | apply Kd.R_alloc | apply Kd.R_drewN | apply Kd.R_drew)); exact h_) : P := h x.out
theorem c1_ {w : World} {g : Nat} {t : TypeId} {v0 : Value} (h : Aside0 (w.heap[g]? = some (.cells #[v0] t (0, 0)))) : w.cell? ⟨g, 0, none⟩ = some v0 := (blk_cell h.out 0).trans rfl
theorem f1_ {w : World} {g : Nat} {t : TypeId} {cs : Array Value} (h : Aside0 (w.heap[g]? = some (.cells cs t (0, 0)))) : w.frozen? ⟨g, 0, none⟩ = false := blk_frozen h.out 0
theorem c2_ {w : World} {g : Nat} {t : TypeId} {v0 v1 : Value} (h : Aside0 (w.heap[g]? = some (.cells #[v0, v1] t (0, 0)))) : w.cell? ⟨g, 0, none⟩ = some v0 ∧ w.cell? ⟨g, 1, none⟩ = some v1 := ⟨(blk_cell h.out 0).trans rfl, (blk_cell h.out 1).trans rfl⟩
theorem f2_ {w : World} {g : Nat} {t : TypeId} {cs : Array Value} (h : Aside0 (w.heap[g]? = some (.cells cs t (0, 0)))) : w.frozen? ⟨g, 0, none⟩ = false ∧ w.frozen? ⟨g, 1, none⟩ = false := ⟨blk_frozen h.out 0, blk_frozen h.out 1⟩
theorem c3_ {w : World} {g : Nat} {t : TypeId} {v0 v1 v2 : Value} (h : Aside0 (w.heap[g]? = some (.cells #[v0, v1, v2] t (0, 0)))) : w.cell? ⟨g, 0, none⟩ = some v0 ∧ w.cell? ⟨g, 1, none⟩ = some v1 ∧ w.cell? ⟨g, 2, none⟩ = some v2 := ⟨(blk_cell h.out 0).trans rfl, (blk_cell h.out 1).trans rfl, (blk_cell h.out 2).trans rfl⟩
theorem f3_ {w : World} {g : Nat} {t : TypeId} {cs : Array Value} (h : Aside0 (w.heap[g]? = some (.cells cs t (0, 0)))) : w.frozen? ⟨g, 0, none⟩ = false ∧ w.frozen? ⟨g, 1, none⟩ = false ∧ w.frozen? ⟨g, 2, none⟩ = false := ⟨blk_frozen h.out 0, blk_frozen h.out 1, blk_frozen h.out 2⟩
theorem c4_ {w : World} {g : Nat} {t : TypeId} {v0 v1 v2 v3 : Value} (h : Aside0 (w.heap[g]? = some (.cells #[v0, v1, v2, v3] t (0, 0)))) : w.cell? ⟨g, 0, none⟩ = some v0 ∧ w.cell? ⟨g, 1, none⟩ = some v1 ∧ w.cell? ⟨g, 2, none⟩ = some v2 ∧ w.cell? ⟨g, 3, none⟩ = some v3 := ⟨(blk_cell h.out 0).trans rfl, (blk_cell h.out 1).trans rfl, (blk_cell h.out 2).trans rfl, (blk_cell h.out 3).trans rfl⟩
theorem f4_ {w : World} {g : Nat} {t : TypeId} {cs : Array Value} (h : Aside0 (w.heap[g]? = some (.cells cs t (0, 0)))) : w.frozen? ⟨g, 0, none⟩ = false ∧ w.frozen? ⟨g, 1, none⟩ = false ∧ w.frozen? ⟨g, 2, none⟩ = false ∧ w.frozen? ⟨g, 3, none⟩ = false := ⟨blk_frozen h.out 0, blk_frozen h.out 1, blk_frozen h.out 2, blk_frozen h.out 3⟩
theorem c5_ {w : World} {g : Nat} {t : TypeId} {v0 v1 v2 v3 v4 : Value} (h : Aside0 (w.heap[g]? = some (.cells #[v0, v1, v2, v3, v4] t (0, 0)))) : w.cell? ⟨g, 0, none⟩ = some v0 ∧ w.cell? ⟨g, 1, none⟩ = some v1 ∧ w.cell? ⟨g, 2, none⟩ = some v2 ∧ w.cell? ⟨g, 3, none⟩ = some v3 ∧ w.cell? ⟨g, 4, none⟩ = some v4 := ⟨(blk_cell h.out 0).trans rfl, (blk_cell h.out 1).trans rfl, (blk_cell h.out 2).trans rfl, (blk_cell h.out 3).trans rfl, (blk_cell h.out 4).trans rfl⟩
theorem f5_ {w : World} {g : Nat} {t : TypeId} {cs : Array Value} (h : Aside0 (w.heap[g]? = some (.cells cs t (0, 0)))) : w.frozen? ⟨g, 0, none⟩ = false ∧ w.frozen? ⟨g, 1, none⟩ = false ∧ w.frozen? ⟨g, 2, none⟩ = false ∧ w.frozen? ⟨g, 3, none⟩ = false ∧ w.frozen? ⟨g, 4, none⟩ = false := ⟨blk_frozen h.out 0, blk_frozen h.out 1, blk_frozen h.out 2, blk_frozen h.out 3, blk_frozen h.out 4⟩
theorem c6_ {w : World} {g : Nat} {t : TypeId} {v0 v1 v2 v3 v4 v5 : Value} (h : Aside0 (w.heap[g]? = some (.cells #[v0, v1, v2, v3, v4, v5] t (0, 0)))) : w.cell? ⟨g, 0, none⟩ = some v0 ∧ w.cell? ⟨g, 1, none⟩ = some v1 ∧ w.cell? ⟨g, 2, none⟩ = some v2 ∧ w.cell? ⟨g, 3, none⟩ = some v3 ∧ w.cell? ⟨g, 4, none⟩ = some v4 ∧ w.cell? ⟨g, 5, none⟩ = some v5 := ⟨(blk_cell h.out 0).trans rfl, (blk_cell h.out 1).trans rfl, (blk_cell h.out 2).trans rfl, (blk_cell h.out 3).trans rfl, (blk_cell h.out 4).trans rfl, (blk_cell h.out 5).trans rfl⟩
theorem f6_ {w : World} {g : Nat} {t : TypeId} {cs : Array Value} (h : Aside0 (w.heap[g]? = some (.cells cs t (0, 0)))) : w.frozen? ⟨g, 0, none⟩ = false ∧ w.frozen? ⟨g, 1, none⟩ = false ∧ w.frozen? ⟨g, 2, none⟩ = false ∧ w.frozen? ⟨g, 3, none⟩ = false ∧ w.frozen? ⟨g, 4, none⟩ = false ∧ w.frozen? ⟨g, 5, none⟩ = false := ⟨blk_frozen h.out 0, blk_frozen h.out 1, blk_frozen h.out 2, blk_frozen h.out 3, blk_frozen h.out 4, blk_frozen h.out 5⟩
theorem c12_ {w : World} {g : Nat} {t : TypeId} {v0 v1 v2 v3 v4 v5 v6 v7 v8 v9 v10 v11 : Value} (h : Aside0 (w.heap[g]? = some (.cells #[v0, v1, v2, v3, v4, v5, v6, v7, v8, v9, v10, v11] t (0, 0)))) : w.cell? ⟨g, 0, none⟩ = some v0 ∧ w.cell? ⟨g, 1, none⟩ = some v1 ∧ w.cell? ⟨g, 2, none⟩ = some v2 ∧ w.cell? ⟨g, 3, none⟩ = some v3 ∧ w.cell? ⟨g, 4, none⟩ = some v4 ∧ w.cell? ⟨g, 5, none⟩ = some v5 ∧ w.cell? ⟨g, 6, none⟩ = some v6 ∧ w.cell? ⟨g, 7, none⟩ = some v7 ∧ w.cell? ⟨g, 8, none⟩ = some v8 ∧ w.cell? ⟨g, 9, none⟩ = some v9 ∧ w.cell? ⟨g, 10, none⟩ = some v10 ∧ w.cell? ⟨g, 11, none⟩ = some v11 := ⟨(blk_cell h.out 0).trans rfl, (blk_cell h.out 1).trans rfl, (blk_cell h.out 2).trans rfl, (blk_cell h.out 3).trans rfl, (blk_cell h.out 4).trans rfl, (blk_cell h.out 5).trans rfl, (blk_cell h.out 6).trans rfl, (blk_cell h.out 7).trans rfl, (blk_cell h.out 8).trans rfl, (blk_cell h.out 9).trans rfl, (blk_cell h.out 10).trans rfl, (blk_cell h.out 11).trans rfl⟩
theorem f12_ {w : World} {g : Nat} {t : TypeId} {cs : Array Value} (h : Aside0 (w.heap[g]? = some (.cells cs t (0, 0)))) : w.frozen? ⟨g, 0, none⟩ = false ∧ w.frozen? ⟨g, 1, none⟩ = false ∧ w.frozen? ⟨g, 2, none⟩ = false ∧ w.frozen? ⟨g, 3, none⟩ = false ∧ w.frozen? ⟨g, 4, none⟩ = false ∧ w.frozen? ⟨g, 5, none⟩ = false ∧ w.frozen? ⟨g, 6, none⟩ = false ∧ w.frozen? ⟨g, 7, none⟩ = false ∧ w.frozen? ⟨g, 8, none⟩ = false ∧ w.frozen? ⟨g, 9, none⟩ = false ∧ w.frozen? ⟨g, 10, none⟩ = false ∧ w.frozen? ⟨g, 11, none⟩ = false := ⟨blk_frozen h.out 0, blk_frozen h.out 1, blk_frozen h.out 2, blk_frozen h.out 3, blk_frozen h.out 4, blk_frozen h.out 5, blk_frozen h.out 6, blk_frozen h.out 7, blk_frozen h.out 8, blk_frozen h.out 9, blk_frozen h.out 10, blk_frozen h.out 11⟩
end Go.Proofs.YtofdhdafabmhmaaDoor.Opn
end
section
/- Arguments that are read as data, laid open as plain values: for any kind of whole numbers, bools, strings, slices and structs, out of the form's own reading. Conditions: none beyond what the reading itself says. -/
namespace Go.Proofs.YtofdhdafabmhmaaDoor.Opn
open Go.RowKit Go.Proofs.YtofdhdafabmhmaaDoorW.PrintWords Go.WideShapes Go.Deep

/-- What is known of arguments: whole numbers are of their kinds; strings and slices take no more room than can be read. -/
abbrev gInt (k : IntKind) (n : Int) : Prop := (Lit.int k n).wf = true
abbrev gStr (s : ByteArray) : Prop := s.size ≤ 140737488351232
/-- A value of type t that is read as data is one of kind d, and good. -/
structure Opens (P : Program) (t : TypeId) {α : Type} (d : Kd α) (G : α → Prop) : Prop where
  go : ∀ {H : Type} {enc : TypeId × Value → H} {w : World} {base : Nat} {spare : Nat → Bool} {held : Bool} {fuel : Nat} {cs : List Value} {x : DataW H × List MemPlace},
    DataW.trod enc P w base spare held fuel t cs = some x → (∀ n ∈ x.1.weights P t, n ≤ reachBytes) → ∃ a, d.K w a cs ∧ G a

theorem opens_int {P : Program} {t : TypeId} {k : IntKind} (ht : P.underlying t = some (.int k)) : Opens P t (Kd.int k) (gInt k) :=
  ⟨fun h _ => by
    obtain ⟨n, rfl, _, hw⟩ := DataW.trod_int ht h; exact ⟨n, rfl, hw⟩⟩
theorem opens_string {P : Program} {t : TypeId} (ht : P.underlying t = some .string) : Opens P t Kd.string gStr :=
  ⟨fun h hz => by
    obtain ⟨s, rfl, rfl, _⟩ := DataW.trod_string ht h; refine ⟨s, rfl, ?_⟩
    have z := hz s.data.toList.length (by simp [DataW.weights]); rw [Array.length_toList] at z; exact z⟩

/-- The fields of a struct, from one on: their cells begin at off. -/
structure OpensF (P : Program) (fs : List Field) (off : Nat) {α : Type} (d : Kd α) (G : α → Prop) : Prop where
  go : ∀ {H : Type} {enc : TypeId × Value → H} {w : World} {base : Nat} {spare : Nat → Bool} {held : Bool} {n : Nat} {cs : List Value} {xs : List (DataW H × List MemPlace)},
    cs.length = off + d.sz → xs.length = fs.length →
    (∀ (i : Nat) (f : Field), fs[i]? = some f → DataW.trod enc P w base spare held n f.type ((cs.drop f.offset).take (P.cellsOf f.type)) = xs[i]?) →
    (∀ k ∈ DataW.weightsEach P (fs.map (·.type)) (xs.map (·.1)), k ≤ reachBytes) → ∃ a, d.K w a (cs.drop off) ∧ G a

theorem opensF_one {P : Program} {f : Field} {off : Nat} {α : Type} {d : Kd α} {G : α → Prop} (ho : f.offset = off) (hc : P.cellsOf f.type = d.sz) (o : Opens P f.type d G) : OpensF P [f] off d G :=
  ⟨fun {H enc w base spare held n cs xs} hl hx ht hw => by
    match xs, hx with
    | [y], _ =>
      have h0 := ht 0 f rfl; rw [ho, hc, List.take_of_length_le (by rw [List.length_drop]; omega)] at h0; exact o.go h0 (fun k hk => hw k (by simpa [DataW.weightsEach] using hk))⟩

theorem opensF_cons {P : Program} {f : Field} {fs : List Field} {off : Nat} {α β : Type} {d : Kd α} {d' : Kd β} {G : α → Prop} {G' : β → Prop} (ho : f.offset = off) (hc : P.cellsOf f.type = d.sz) (o : Opens P f.type d G)
    (o' : OpensF P fs (off + d.sz) d' G') : OpensF P (f :: fs) off (Kd.pair d d') (fun x => G x.1 ∧ G' x.2) :=
  ⟨fun {H enc w base spare held n cs xs} hl hx ht hw => by
    match xs, hx with
    | y :: ys, hx =>
      have hl' : cs.length = off + (d.sz + d'.sz) := hl; have h0 := ht 0 f rfl; rw [ho, hc] at h0; obtain ⟨a, ha, hg⟩ := o.go h0 (fun k hk => hw k (by simp [DataW.weightsEach, hk])); obtain ⟨b, hb, hg'⟩ := o'.go (cs := cs) (xs := ys) (by omega) (by simpa using hx) (fun i f' hf => by simpa using ht (i + 1) f' (by simpa using hf)) (fun k hk => hw k (by simp [DataW.weightsEach, hk])); refine ⟨(a, b), ⟨(cs.drop off).take d.sz, cs.drop (off + d.sz), ?_, ha, hb⟩, hg, hg'⟩
      rw [← List.drop_drop, List.take_append_drop]⟩

theorem opens_struct {P : Program} {t : TypeId} {fs : Array Field} {α : Type} {d : Kd α} {G : α → Prop} (ht : P.underlying t = some (.struct fs)) (hc : P.cellsOf t = d.sz) (o : OpensF P fs.toList 0 d G) : Opens P t d G :=
  ⟨fun h hz => by
    obtain ⟨xs, n, _, rfl, hl, hlen, hf⟩ := DataW.trod_struct ht h; obtain ⟨a, ha, hg⟩ := o.go (by rw [hl, hc, Nat.zero_add]) (by simpa using hlen) (fun i f hi => hf i f (by simpa using hi)) (fun k hk => hz k (by simpa [DataW.weights, ht] using hk)); exact ⟨a, by simpa using ha, hg⟩⟩

theorem opens_iso {P : Program} {t : TypeId} {α β : Type} {d : Kd α} {G : α → Prop} {f : β → α} (g : α → β) (hf : ∀ a, f (g a) = a) (o : Opens P t d G) : Opens P t (Kd.iso d f) (fun b => G (f b)) :=
  ⟨fun h hz => by
    obtain ⟨a, ha, hg⟩ := o.go h hz; refine ⟨g a, ?_, ?_⟩
    · show d.K _ (f (g a)) _
      rw [hf]; exact ha
    show G (f (g a))
    rw [hf]; exact hg⟩

/-- What one of several arguments weighs. -/
theorem weighs {H : Type} {P : Program} {ts : List TypeId} {ds : List (DataW H)} (h : (DataW.weightsEach P ts ds).all (· ≤ reachBytes) = true) {j : Nat} {t : TypeId} {d : DataW H} (ht : ts[j]? = some t) (hd : ds[j]? = some d) :
    ∀ n ∈ d.weights P t, n ≤ reachBytes := fun n hn => by
  have := List.all_eq_true.1 h n (DataW.weights_mem_each ht hd n hn)
  simpa using this

section
variable {H : Type} {enc : TypeId × Value → H} {P : Program} {W : World} {base : Nat} {spare : Nat → Bool} {held : Bool} {t : TypeId} {α : Type} {d : Kd α} {D : DataW H} {ps : List MemPlace}
theorem array_of {cs : Array Value} {l : List Value} (h : cs.toList = l) : cs = l.toArray := by rw [← h]
theorem arg_agg {G : α → Prop} {cs : Array Value} (o : Opens P t d G) (h : DataW.Trod enc P W base spare held t (.agg cs) D ps) (hw : ∀ n ∈ D.weights P t, n ≤ reachBytes) : ∃ x : α, d.K W x cs.toList ∧ G x := by
  obtain ⟨fuel, hf⟩ := h; exact o.go hf hw
end
end Go.Proofs.YtofdhdafabmhmaaDoor.Opn
namespace Go.Proofs.YtofdhdafabmhmaaDoor.Giv
end Go.Proofs.YtofdhdafabmhmaaDoor.Giv
end
section
/-! ### 50. A region's order in a table, made once a region: each step asks the table (numbers alone), not the operations -/
namespace Go.Proofs.YtofdhdafabmhmaaDoorW.PrintLast
open Go.Proofs.YtofdhdafabmhmaaDoorW.PrintWords (Aside0)
def needsOf (md : Region.Mode) (o : Oper) : List Nat := (o.after.toList.filter (fun e => Region.binds md e)).map (fun e => e.on)
def clashOf (md : Region.Mode) (ops : Array Oper) (i : Nat) (oi : Oper) : List Nat := (List.range ops.size).filter fun j => !(j == i) && match ops[j]? with
  | some oj => !(oj.after.any (fun e => Region.binds md e && e.on == i) || oi.apart ops oj)
  | none => false
/-- No select in it; for each operation: what must have come up before it, and what may not come up behind it if it is taken first. -/
def rtab (md : Region.Mode) (ops : Array Oper) : Bool × List (List Nat × List Nat) := (Region.noSelect ops, (List.range ops.size).map fun i => match ops[i]? with
  | some o => (needsOf md o, clashOf md ops i o)
  | none => ([], []))
def readyAt (T : List (List Nat × List Nat)) (l : List Bool) (i : Nat) : Bool := !l.getD i true && match T[i]? with
  | some r => r.1.all (fun j => l.getD j false)
  | none => false
def readyT (T : List (List Nat × List Nat)) (l : List Bool) : List Nat := (List.range T.length).filter (readyAt T l)
def freeT (T : List (List Nat × List Nat)) (l : List Bool) (i : Nat) : Bool := match T[i]? with
  | some r => r.2.all (fun j => l.getD j true)
  | none => false
def closedT (T : List (List Nat × List Nat)) (l : List Bool) : Bool := (List.range T.length).all fun j => !l.getD j false || match T[j]? with
  | some r => r.1.all (fun k => l.getD k false)
  | none => true
def reachT (T : List (List Nat × List Nat)) (i : Nat) : Nat → Nat → Bool
  | 0, _ => false
  | fuel + 1, d => match T[d]? with
    | some r => r.1.any fun j => j == i || reachT T i fuel j
    | none => false
def lastT (T : List (List Nat × List Nat)) (l : List Bool) (ds : List Nat) (i : Nat) : Bool := ds.all fun d => l.getD d true || reachT T i T.length d
section
variable {md : Region.Mode} {ops : Array Oper} {T : Bool × List (List Nat × List Nat)} {l l' li lj lk : Array Bool} {ds : List Nat} {i j k : Nat}
theorem gd (l : Array Bool) (j : Nat) (b : Bool) : l.getD j b = l.toList.getD j b := by simp [Array.getD_eq_getD_getElem?, List.getD_eq_getElem?_getD]
theorem needs_all (o : Oper) (p : Nat → Bool) : o.after.all (fun e => !Region.binds md e || p e.on) = (needsOf md o).all p := by
  unfold needsOf; rw [← Array.all_toList]; induction o.after.toList with
  | nil => rfl
  | cons e r ih =>
    rw [List.all_cons, ih, List.filter_cons]; cases h : Region.binds md e <;> simp
theorem needs_any (o : Oper) (p : Nat → Bool) : o.after.any (fun e => Region.binds md e && p e.on) = (needsOf md o).any p := by
  unfold needsOf; rw [← Array.any_toList]; induction o.after.toList with
  | nil => rfl
  | cons e r ih =>
    rw [List.any_cons, ih, List.filter_cons]; cases h : Region.binds md e <;> simp
theorem rtab_length : (rtab md ops).2.length = ops.size := by simp [rtab]
theorem rtab_some {o : Oper} (h : ops[i]? = some o) : (rtab md ops).2[i]? = some (needsOf md o, clashOf md ops i o) := by
  have hi := (Array.getElem?_eq_some_iff.1 h).1; unfold rtab; rw [List.getElem?_map, List.getElem?_range hi, Option.map_some, h]
theorem rtab_none (h : ops[i]? = none) : (rtab md ops).2[i]? = none := by
  have hi : ops.size ≤ i := Array.getElem?_eq_none_iff.1 h; exact List.getElem?_eq_none (by rw [rtab_length]; exact hi)
theorem readyAt_eq : readyAt (rtab md ops).2 l.toList i = (!l.getD i true && ((ops[i]?).map (·.after.all fun e => !Region.binds md e || l.getD e.on false)).getD false) := by
  unfold readyAt; rw [gd]; cases h : ops[i]? with
  | none => rw [rtab_none h]; rfl
  | some o =>
    rw [rtab_some h]; simp only [Option.map_some, Option.getD_some]; rw [← needs_all]; simp only [gd]
theorem ready_eq : Region.ready md ops l = readyT (rtab md ops).2 l.toList := by
  unfold Region.ready readyT; rw [rtab_length]; refine List.filter_congr (fun i _ => ?_)
  rw [readyAt_eq]
theorem free_eq : Region.free md ops l i = freeT (rtab md ops).2 l.toList i := by
  unfold Region.free freeT; cases h : ops[i]? with
  | none => rw [rtab_none h]
  | some oi =>
    rw [rtab_some h]; simp only [clashOf]; rw [List.all_filter]; congr 1
    funext j
    rw [gd]; cases hj : ops[j]? with
    | none => cases (j == i) <;> cases (l.toList.getD j true) <;> simp
    | some oj =>
      cases (j == i) <;> cases (l.toList.getD j true) <;> cases (oj.after.any (fun e => Region.binds md e && e.on == i) || oi.apart ops oj) <;> simp_all
theorem closed_eq : Region.closedB md ops l = closedT (rtab md ops).2 l.toList := by
  unfold Region.closedB closedT; rw [rtab_length]; congr 1
  funext j
  rw [gd]; cases h : ops[j]? with
  | none => rw [rtab_none h]
  | some o =>
    rw [rtab_some h]; simp only
    rw [← needs_all]; simp only [gd]
theorem reach_eq : ∀ (fuel d : Nat), Region.reachB md ops i fuel d = reachT (rtab md ops).2 i fuel d
  | 0, _ => rfl
  | fuel + 1, d => by
    unfold Region.reachB reachT; cases h : ops[d]? with
    | none => rw [rtab_none h]
    | some o =>
      rw [rtab_some h]; simp only
      rw [← needs_any]; congr 1
      funext e
      rw [reach_eq fuel]
theorem last_eq : Region.lastB md ops l ds i = lastT (rtab md ops).2 l.toList ds i := by
  unfold Region.lastB lastT; rw [rtab_length]; congr 1
  funext d
  rw [gd, reach_eq]
theorem readyAt_mem (h : readyAt T.2 l.toList i = true) (hT : rtab md ops = T) : (Region.ready md ops l).contains i = true := by
  subst hT; rw [ready_eq]; unfold readyT; rw [List.contains_iff_mem, List.mem_filter, List.mem_range]; refine ⟨?_, h⟩
  unfold readyAt at h; rw [Bool.and_eq_true] at h; cases hq : (rtab md ops).2[i]? with
  | none => rw [hq] at h; simp at h
  | some r => exact (List.getElem?_eq_some_iff.1 hq).1
theorem set_of (h : (l.toList.set i true == l'.toList) = true) : (l.setIfInBounds i true == l') = true := by
  rw [beq_iff_eq] at h ⊢; apply Array.ext'
  rw [Array.toList_setIfInBounds]; exact h
def anyT (T : Bool × List (List Nat × List Nat)) (l l' : List Bool) (i : Nat) : Bool := T.1 && freeT T.2 l i && readyAt T.2 l i && (l.set i true == l')
/-- pure_'s condition out of the table. -/
theorem any_of (hT : rtab md ops = T) (h : anyT T l.toList l'.toList i = true) : anyB md ops l l' i = true := by
  simp only [anyT, Bool.and_eq_true] at h; obtain ⟨⟨⟨h1, h2⟩, h3⟩, h4⟩ := h; have h5 := readyAt_mem h3 hT; have h6 := set_of h4; subst hT; simp only [anyB, Bool.and_eq_true]; exact ⟨⟨⟨h1, by rw [free_eq]; exact h2⟩, h5⟩, h6⟩
def takeT (T : Bool × List (List Nat × List Nat)) (ds : List Nat) (l l' : List Bool) (i : Nat) : Bool := T.1 && freeT T.2 l i && readyAt T.2 l i && closedT T.2 l && lastT T.2 l ds i && (l.set i true == l')
/-- take_'s. -/
theorem take_of (hT : rtab md ops = T) (h : takeT T ds l.toList l'.toList i = true) : takeB md ops ds l l' i = true := by
  simp only [takeT, Bool.and_eq_true] at h; obtain ⟨⟨⟨⟨⟨h1, h2⟩, h3⟩, h4⟩, h5⟩, h6⟩ := h; have h7 := readyAt_mem h3 hT; have h8 := set_of h6; subst hT; simp only [takeB, Bool.and_eq_true]; exact ⟨⟨⟨⟨⟨h1, by rw [free_eq]; exact h2⟩, h7⟩, by rw [closed_eq]; exact h4⟩, by rw [last_eq]; exact h5⟩, h8⟩
/-- one_'s and last_'s. -/
theorem one_of (hT : rtab md ops = T) (h : (readyT T.2 l.toList == [i] && l.toList.set i true == l'.toList) = true) : readyB md ops l l' i = true := by
  simp only [Bool.and_eq_true] at h; obtain ⟨h1, h2⟩ := h; subst hT; simp only [readyB, Bool.and_eq_true]; exact ⟨by rw [ready_eq]; exact h1, set_of h2⟩
/-- done_'s. -/
theorem done_of (hT : rtab md ops = T) (h : (readyT T.2 l.toList == []) = true) : (Region.ready md ops l == []) = true := by
  subst hT; rw [ready_eq]; exact h
/-- What d waits for, as_ bits: told in the table (B), checked in one pass: each bit is a need of d, or a bit of an earlier need's. -/
def upM (B : List Nat) (d : Nat) : List Nat → Nat
  | [] => 0
  | n :: r => (2 ^ n ||| (if n < d then B.getD n 0 else 0)) ||| upM B d r
def waitsOk (T : List (List Nat × List Nat)) (B : List Nat) : Bool := (List.range T.length).all fun d => match T[d]? with
  | some r => (B.getD d 0 ||| upM B d r.1) == upM B d r.1
  | none => false
theorem upM_bit {B : List Nat} {d i : Nat} : ∀ {ns : List Nat}, (upM B d ns).testBit i = true → ∃ n ∈ ns, n = i ∨ (n < d ∧ (B.getD n 0).testBit i = true)
  | [], h => by simp [upM] at h
  | n :: r, h => by
    unfold upM at h; rw [Nat.testBit_or, Nat.testBit_or, Bool.or_eq_true, Bool.or_eq_true] at h; rcases h with (h | h) | h
    · rw [Nat.testBit_two_pow] at h
      exact ⟨n, List.mem_cons_self, .inl (by simpa using h)⟩
    · by_cases hn : n < d
      · rw [if_pos hn] at h
        exact ⟨n, List.mem_cons_self, .inr ⟨hn, h⟩⟩
      rw [if_neg hn] at h; simp at h
    obtain ⟨m, hm, h2⟩ := upM_bit h; exact ⟨m, List.mem_cons_of_mem _ hm, h2⟩
theorem reach_bit {T : List (List Nat × List Nat)} {B : List Nat} (hB : waitsOk T B = true) : ∀ (fuel d : Nat), d < fuel → d < T.length → (B.getD d 0).testBit i = true → reachT T i fuel d = true
  | 0, d, h, _, _ => by omega
  | fuel + 1, d, h, hd, hb => by
    have h1 := List.all_eq_true.1 hB d (List.mem_range.2 hd); cases hr : T[d]? with
    | none => rw [hr] at h1; simp at h1
    | some r =>
      rw [hr] at h1; simp only [beq_iff_eq] at h1; have h2 : (upM B d r.1).testBit i = true := by rw [← h1, Nat.testBit_or, hb, Bool.true_or]
      obtain ⟨n, hn, h3⟩ := upM_bit h2; unfold reachT; rw [hr]; simp only
      rw [List.any_eq_true]; refine ⟨n, hn, ?_⟩
      rcases h3 with rfl | ⟨h4, h5⟩
      · simp
      rw [reach_bit hB fuel n (by omega) (by omega) h5, Bool.or_true]
def lastW (T : List (List Nat × List Nat)) (B : List Nat) (l : List Bool) (ds : List Nat) (i : Nat) : Bool := ds.all fun d => l.getD d true || (decide (d < T.length) && (B.getD d 0).testBit i)
def takeW (T : Bool × List (List Nat × List Nat)) (B : List Nat) (ds : List Nat) (l l' : List Bool) (i : Nat) : Bool := T.1 && freeT T.2 l i && readyAt T.2 l i && closedT T.2 l && lastW T.2 B l ds i && (l.set i true == l')
/-- take_'s, by the bits. -/
theorem take_ofW {B : List Nat} (hT : rtab md ops = T) (hB : waitsOk T.2 B = true) (h : takeW T B ds l.toList l'.toList i = true) : takeB md ops ds l l' i = true := by
  refine take_of hT ?_
  simp only [takeW, takeT, Bool.and_eq_true] at h ⊢; obtain ⟨⟨⟨⟨⟨h1, h2⟩, h3⟩, h4⟩, h5⟩, h6⟩ := h; refine ⟨⟨⟨⟨⟨h1, h2⟩, h3⟩, h4⟩, ?_⟩, h6⟩
  unfold lastW at h5; unfold lastT; rw [List.all_eq_true] at h5 ⊢; intro d hd; have h7 := h5 d hd; rw [Bool.or_eq_true, Bool.and_eq_true, decide_eq_true_eq] at h7; rcases h7 with h7 | ⟨h8, h9⟩
  · rw [h7, Bool.true_or]
  rw [reach_bit hB _ d h8 h8 h9, Bool.or_true]
theorem with_tabW {P : Program} {Q : Exit → Act → World → Prop} {S : World → Prop} {n : Nat} {a : Act} {w : World} {B : List Nat} (hT : rtab md ops = T) (hB : waitsOk T.2 B = true) (h : Aside0 (rtab md ops = T) → Aside0 (waitsOk T.2 B = true) → wpAnyLast P md ops Q S ds n l a w) : wpAnyLast P md ops Q S ds n l a w := h ⟨hT⟩ ⟨hB⟩
end
/-- The operations of a region, by its number. -/
def opsIn : Code → Nat → Option (Array Oper)
  | .region id ops _, k => if id == k then some ops else none
  | .seq a b, k => match opsIn a k with
    | some o => some o
    | none => opsIn b k
  | .cond _ a b, k => match opsIn a k with
    | some o => some o
    | none => opsIn b k
  | .block _ c, k => opsIn c k
  | .loop c, k => opsIn c k
  | .scope c, k => opsIn c k
  | .rangeFunc _ _ a b, k => match opsIn a k with
    | some o => some o
    | none => opsIn b k
  | _, _ => none
def opsOf (f : Func) (k : Nat) : Array Oper := ((f.body.bind fun c => opsIn c k)).getD #[]
end Go.Proofs.YtofdhdafabmhmaaDoorW.PrintLast
end
section
/-! ### 56. Four, five, six operations that may come up next, in any order -/
namespace Go.Proofs.YtofdhdafabmhmaaDoorW.PrintLast
section
variable {P : Program} {ops : Array Oper} {Q : Exit → Act → World → Prop} {md : Region.Mode} {S : World → Prop} {ds : List Nat} {T : Bool × List (List Nat × List Nat)}
end
end Go.Proofs.YtofdhdafabmhmaaDoorW.PrintLast
end
section
/-! ### 52. A row that stays read whatever happens to a block (a set of blocks) doesn't lie there -/
namespace Go.Proofs.YtofdhdafabmhmaaDoorW.PrintWords
open Go.RowKit
namespace Kd
section
variable {α : Type} {d : Kd α} {W : World} {g n : Nat} {S ok : Nat → Prop} {A : Option Addr} {ad : Addr} {xs : List α}
end
end Kd
end Go.Proofs.YtofdhdafabmhmaaDoorW.PrintWords
end
section
/-! ### 54. Behind orders that were drawn quietly: the same facts at the world's new name; a flat row's foot -/
namespace Go.Proofs.YtofdhdafabmhmaaDoorW.PrintWords
open Go.RowKit
section
variable {w w' u : World} {m B g : Nat} {o : Obj} {row : Option Nat} {S : Nat → Prop} {a : Addr} {v : Value}
end
namespace Kd
section
variable {α : Type} {d : Kd α} {e base n m : Nat} {ok : Nat → Prop} {w w' : World} {v : Value} {A : Option Addr} {xs : List α}
end
end Kd
end Go.Proofs.YtofdhdafabmhmaaDoorW.PrintWords
end
section
/-! ### 53. '==' of structs as_ one Bool -/
namespace Go.Proofs.YtofdhdafabmhmaaDoorW.PrintWords
open Go.RowKit
section
variable {P : Program} {d : Nat} {xs ys : Array Value} {f : Field} {fs : List Field} {a b : Value} {r s : Bool} {w : World}
/-- The last field that counts. -/
theorem eqf_last (hn : (f.name == "_") = false) (ha : (part f.type xs f.offset).run P w = .ok a w) (hb : (part f.type ys f.offset).run P w = .ok b w) (he : (Op.equalIn d f.type a b).run P w = .ok r w) : (Op.eqFields d xs ys [f]).run P w = .ok r w := by
  have hn' : f.name ≠ "_" := by simpa using hn
  simp only [Op.eqFields, if_pos hn', Sem.run_bind, ha, hb, he, Result.andThen_ok]; cases r <;> simp
theorem eqf_cons (hn : (f.name == "_") = false) (ha : (part f.type xs f.offset).run P w = .ok a w) (hb : (part f.type ys f.offset).run P w = .ok b w) (he : (Op.equalIn d f.type a b).run P w = .ok r w) (hr : (Op.eqFields d xs ys fs).run P w = .ok s w) : (Op.eqFields d xs ys (f :: fs)).run P w = .ok (r && s) w := by
  have hn' : f.name ≠ "_" := by simpa using hn
  rw [Op.eqFields]; simp only [if_pos hn', Sem.run_bind, ha, hb, he, Result.andThen_ok]; cases r
  · simp
  simpa using hr
theorem eqA_of {t : TypeId} {fs : Array Field} (hu : P.underlying t = some (.struct fs)) (hp : P.stoodInHeld t = false) (h : (Op.eqFields d xs ys fs.toList).run P w = .ok r w) : (Op.equalIn (d + 1) t (.agg xs) (.agg ys)).run P w = .ok r w := by
  have hf : P.fieldsOf t = fs := by simp [Program.fieldsOf, hu]
  rw [run_equalIn_struct (P := P) w d t xs ys (by rw [hf]; exact hu) hp, hf]; exact h
end
end Go.Proofs.YtofdhdafabmhmaaDoorW.PrintWords
end
section
/-! ### 55. Reps told from the front, no append: for rows of one-cell elements and of wider ones -/
namespace Go.Proofs.YtofdhdafabmhmaaDoorW.PrintWords
/-- One cell an element. -/
theorem Reps.one {α : Type} {R : α → List Value → Prop} {ps : List α} {cs : List Value} {p : α} {v : Value} (hp : R p [v]) (h : Reps R 1 ps cs) : Reps R 1 (p :: ps) (v :: cs) := by
  refine ⟨by simp [h.1], fun j q hq => ?_⟩
  cases j with
  | zero =>
    simp only [List.getElem?_cons_zero, Option.some.injEq] at hq; subst hq; simpa using hp
  | succ j =>
    simp only [List.getElem?_cons_succ] at hq; have h1 := h.2 j q hq; simpa [Nat.mul_one] using h1
/-- More cells an element: told apart by the cells' list. -/
theorem Reps.front {α : Type} {R : α → List Value → Prop} {size : Nat} {ps : List α} {cs c all : List Value} {p : α} (hp : R p c) (hc : c.length = size) (h : Reps R size ps cs) (ha : c ++ cs = all) : Reps R size (p :: ps) all := by
  subst ha; refine ⟨by rw [List.length_append, hc, h.1, List.length_cons, Nat.succ_mul, Nat.add_comm], fun j q hq => ?_⟩
  cases j with
  | zero =>
    simp only [List.getElem?_cons_zero, Option.some.injEq] at hq; subst hq; rw [Nat.zero_mul, List.drop_zero, List.take_append_of_le_length (by omega), List.take_of_length_le (by omega)]; exact hp
  | succ j =>
    simp only [List.getElem?_cons_succ] at hq; have h1 := h.2 j q hq; rw [Nat.succ_mul, List.drop_append, List.drop_of_length_le (by rw [hc]; exact Nat.le_add_left _ _), List.nil_append, hc, Nat.add_sub_cancel]; exact h1
theorem Reps.c2 {α : Type} {R : α → List Value → Prop} {ps : List α} {cs : List Value} {p : α} {va vb : Value} (hp : R p [va, vb]) (h : Reps R 2 ps cs) : Reps R 2 (p :: ps) (va :: vb :: cs) := Reps.front hp rfl h rfl
theorem Reps.c3 {α : Type} {R : α → List Value → Prop} {ps : List α} {cs : List Value} {p : α} {va vb vc : Value} (hp : R p [va, vb, vc]) (h : Reps R 3 ps cs) : Reps R 3 (p :: ps) (va :: vb :: vc :: cs) := Reps.front hp rfl h rfl
theorem Reps.c4 {α : Type} {R : α → List Value → Prop} {ps : List α} {cs : List Value} {p : α} {va vb vc vd : Value} (hp : R p [va, vb, vc, vd]) (h : Reps R 4 ps cs) : Reps R 4 (p :: ps) (va :: vb :: vc :: vd :: cs) := Reps.front hp rfl h rfl
theorem Reps.c5 {α : Type} {R : α → List Value → Prop} {ps : List α} {cs : List Value} {p : α} {va vb vc vd ve : Value} (hp : R p [va, vb, vc, vd, ve]) (h : Reps R 5 ps cs) : Reps R 5 (p :: ps) (va :: vb :: vc :: vd :: ve :: cs) := Reps.front hp rfl h rfl
theorem Reps.c6 {α : Type} {R : α → List Value → Prop} {ps : List α} {cs : List Value} {p : α} {va vb vc vd ve vf : Value} (hp : R p [va, vb, vc, vd, ve, vf]) (h : Reps R 6 ps cs) : Reps R 6 (p :: ps) (va :: vb :: vc :: vd :: ve :: vf :: cs) := Reps.front hp rfl h rfl
theorem Reps.c7 {α : Type} {R : α → List Value → Prop} {ps : List α} {cs : List Value} {p : α} {va vb vc vd ve vf vg : Value} (hp : R p [va, vb, vc, vd, ve, vf, vg]) (h : Reps R 7 ps cs) : Reps R 7 (p :: ps) (va :: vb :: vc :: vd :: ve :: vf :: vg :: cs) := Reps.front hp rfl h rfl
theorem Reps.c8 {α : Type} {R : α → List Value → Prop} {ps : List α} {cs : List Value} {p : α} {va vb vc vd ve vf vg vh : Value} (hp : R p [va, vb, vc, vd, ve, vf, vg, vh]) (h : Reps R 8 ps cs) : Reps R 8 (p :: ps) (va :: vb :: vc :: vd :: ve :: vf :: vg :: vh :: cs) := Reps.front hp rfl h rfl
theorem Reps.c9 {α : Type} {R : α → List Value → Prop} {ps : List α} {cs : List Value} {p : α} {va vb vc vd ve vf vg vh vi : Value} (hp : R p [va, vb, vc, vd, ve, vf, vg, vh, vi]) (h : Reps R 9 ps cs) : Reps R 9 (p :: ps) (va :: vb :: vc :: vd :: ve :: vf :: vg :: vh :: vi :: cs) := Reps.front hp rfl h rfl
theorem Reps.c10 {α : Type} {R : α → List Value → Prop} {ps : List α} {cs : List Value} {p : α} {va vb vc vd ve vf vg vh vi vj : Value} (hp : R p [va, vb, vc, vd, ve, vf, vg, vh, vi, vj]) (h : Reps R 10 ps cs) : Reps R 10 (p :: ps) (va :: vb :: vc :: vd :: ve :: vf :: vg :: vh :: vi :: vj :: cs) := Reps.front hp rfl h rfl
end Go.Proofs.YtofdhdafabmhmaaDoorW.PrintWords
end
section
/-! ### 57. A region of open order by ONE relation over what is listed so far: each operation is shown once, whatever came up before it -/
namespace Go.Proofs.YtofdhdafabmhmaaDoorW.PrintLast
/-- Number i is listed too. -/
def up (b : Nat → Bool) (i : Nat) : Nat → Bool := fun j => if j = i then true else b j
section
variable {P : Program} {ops : Array Oper} {Q : Exit → Act → World → Prop} {md : Region.Mode} {T : Bool × List (List Nat × List Nat)} {B : List Nat} {O : List Nat} {b : Nat → Bool} {i j n : Nat}
/-! The frame: what is listed has its destination filled. -/
end
end Go.Proofs.YtofdhdafabmhmaaDoorW.PrintLast
end
section
namespace Go.Proofs.YtofdhdafabmhmaaDoorW.PrintWords
open Go.RowKit
/-- A row that isn't empty: its address. -/
theorem Kd.R_slice1 {α : Type} {d : Kd α} {e base : Nat} {ok : Nat → Prop} {w : World} {v : Value} {xs : List α} (h : d.R e w base ok v xs) (hn : 0 < xs.length) : ∃ (ad : Addr) (c : Nat), v = .slice (some ad) xs.length c := by
  obtain ⟨A, c, rfl⟩ := Kd.R_slice h; have h2 := (Kd.R_reads' h).2.2; obtain ⟨ad, he, _⟩ := h2.2.2 hn; subst he; exact ⟨ad, c, rfl⟩
end Go.Proofs.YtofdhdafabmhmaaDoorW.PrintWords
namespace Go.Proofs.YtofdhdafabmhmaaDoorW.PrintLast
section
variable {ops : Array Oper} {a : Act} {o og : Oper} {g : Nat} {t : Tmp} {u : Bool}
end
end Go.Proofs.YtofdhdafabmhmaaDoorW.PrintLast
end
section
/-! ### 58. A guarded operation whose guard is known to want it: the same goal without the guard -/
namespace Go.Proofs.YtofdhdafabmhmaaDoorW.PrintWords
open Go.RowKit
section
variable {P : Program} {ops : Array Oper} {rest : List Oper} {o : Oper} {a : Act} {Q : Exit → Act → World → Prop} {W : World}
/-- The gate takes the guard off (hw: 'by rfl', 'by kernel_rfl': the guard's slot holds what is wanted). -/
theorem gate_guard (hw : Region.wanted o (yielded ops a.tmps) = true) (h : wpList P ops Q ({ o with guard := none } :: rest) a W) : wpList P ops Q (o :: rest) a W := by
  have h1 : Region.wanted { o with guard := none } (yielded ops a.tmps) = true := rfl; unfold wpList at h ⊢; rw [if_pos h1] at h; rw [if_pos hw]; exact h
end
end Go.Proofs.YtofdhdafabmhmaaDoorW.PrintWords
end
section
/- A short word for a region's steps that yield in every world. Conditions: none. -/
namespace Go.Proofs.YtofdhdafabmhmaaDoor.Opn
open Go.RowKit Go.Proofs.YtofdhdafabmhmaaDoorW.PrintWords Go.Proofs.YtofdhdafabmhmaaDoorW.PrintLast Go.Proofs.YtofdhdafabmhmaaDoorW.PrintMore
section
variable {P : Program} {ops : Array Oper} {Q : Exit → Act → World → Prop} {md : Region.Mode} {S : World → Prop} {ds : List Nat}
/-- A step of a region that yields in every world: all that it owes is paid by looking. -/
theorem pus_ {oi : Oper} {v : Value} {fuel : Nat} {l : Array Bool} {a a' : Act} {w : World} (i : Nat) (N : Option Tmp) (l' : Array Bool) (hi : ops[i]? = some oi) (hN : oi.dst = N) {T : Bool × List (List Nat × List Nat)} (HT : rtab md ops = T)
    (h : wpAnyLast P md ops Q S ds fuel l' a' w) (hc : anyT T l.toList l'.toList i = true := by kernel_rfl) (hQ : ∀ c a w, Q (.panic c) (a.put oi.dst v) w → Q (.panic c) a w := by exact fun _ _ _ h => h)
    (hw : Region.wanted oi (yielded ops a.tmps) = true := by rfl) (hv : ∀ w, (execOp a.eval oi).run P w = .ok (.value v) w := by intro w'; go_simp; with_reducible rfl)
    (ha : a.put N v = a' := by simp only [Act.put, List.setIfInBounds_toArray, List.set_cons_zero, List.set_cons_succ, i64_w, i32_w]; rfl) : wpAnyLast P md ops Q S ds (fuel + 1) l a w :=
  pure_ l' hi hN (any_of HT hc) hQ (Or.inl ⟨hw, hv⟩) ha h
/-- The same of one that is left out. -/
theorem puu_ {oi : Oper} {fuel : Nat} {l : Array Bool} {a a' : Act} {w : World} (i : Nat) (N : Option Tmp) (l' : Array Bool) (hi : ops[i]? = some oi) (hN : oi.dst = N) {T : Bool × List (List Nat × List Nat)} (HT : rtab md ops = T)
    (h : wpAnyLast P md ops Q S ds fuel l' a' w) (hc : anyT T l.toList l'.toList i = true := by kernel_rfl) (hQ : ∀ c a w, Q (.panic c) (a.put oi.dst undef) w → Q (.panic c) a w := by exact fun _ _ _ h => h)
    (hw : Region.wanted oi (yielded ops a.tmps) = false := by rfl)
    (ha : a.put N undef = a' := by simp only [Act.put, List.setIfInBounds_toArray, List.set_cons_zero, List.set_cons_succ, i64_w, i32_w]; rfl) : wpAnyLast P md ops Q S ds (fuel + 1) l a w :=
  pure_ l' hi hN (any_of HT hc) hQ (Or.inr ⟨hw, rfl⟩) ha h
/-- The same of one that reads what is held. -/
theorem tas_ {oi : Oper} {v : Value} {fuel : Nat} {l : Array Bool} {a a' : Act} {w : World} {B : List Nat} (i : Nat) (N : Option Tmp) (l' : Array Bool) (hi : ops[i]? = some oi) (hN : oi.dst = N) {T : Bool × List (List Nat × List Nat)} (HT : rtab md ops = T) (HW : waitsOk T.2 B = true) (hS : S w)
    (h : wpAnyLast P md ops Q S ds fuel l' a' w) (hc : takeW T B ds l.toList l'.toList i = true := by kernel_rfl) (hQ : ∀ c a w, Q (.panic c) (a.put oi.dst v) w → Q (.panic c) a w := by exact fun _ _ _ h => h)
    (hw : Region.wanted oi (yielded ops a.tmps) = true := by rfl) (hv : ∀ w, S w → (execOp a.eval oi).run P w = .ok (.value v) w := by intro w' hS_; (try dsimp only at hS_); go_simp; with_reducible rfl)
    (ha : a.put N v = a' := by simp only [Act.put, List.setIfInBounds_toArray, List.set_cons_zero, List.set_cons_succ, i64_w, i32_w]; rfl) : wpAnyLast P md ops Q S ds (fuel + 1) l a w :=
  take_ l' hi hN (take_ofW HT HW hc) hQ (Or.inl ⟨hw, hv⟩) hS ha h
end
theorem drs_ {P : Prop} (h : P := by repeat (first | exact Drawn0.refl _ | apply Drawn0.step)) : P := h
end Go.Proofs.YtofdhdafabmhmaaDoor.Opn
end
section
/- Rows of bytes that a conversion has made: they are only read (a conversion marks its row). Conditions: as each theorem says. -/
namespace Go.Proofs.YtofdhdafabmhmaaDoor.Giv
open Go.RowKit Go.Proofs.YtofdhdafabmhmaaDoorW.PrintWords
namespace Kd
open Go.Proofs.YtofdhdafabmhmaaDoorW.PrintWords.Kd (F F_now F_step int)
/-- A row that is only read, and is the call's own. -/
def Z {α : Type} (d : Go.Proofs.YtofdhdafabmhmaaDoorW.PrintWords.Kd α) (e : Nat) (w : World) (base : Nat) (ok : Nat → Prop) (v : Value) (xs : List α) : Prop :=
  (∀ k, v.ownBlock = some k → ok k ∧ base ≤ k ∧ k < w.heap.size) ∧ ∃ A c, v = .slice A xs.length c ∧ xs.length ≤ c ∧ F d w (fun k => some k = v.ownBlock) A xs.length xs
section
variable {α : Type} {d : Go.Proofs.YtofdhdafabmhmaaDoorW.PrintWords.Kd α} {e base base' n c m N : Nat} {ok ok' : Nat → Prop} {w w1 w' W : World} {A : Option Addr} {u v : Value} {xs : List α}
theorem Z_step (h : Z d e w base ok v xs) (hm : ∀ k, ok k → k < w.heap.size → w1.heap[k]? = w.heap[k]?) : Z d e w1 base ok v xs := by
  obtain ⟨h1, A, c, rfl, hc, hF⟩ := h; exact ⟨fun k hk => ⟨(h1 k hk).1, (h1 k hk).2.1, Go.Proofs.YtofdhdafabmhmaaDoorW.PrintWords.heap_lt (hm k (h1 k hk).1 (h1 k hk).2.2) (h1 k hk).2.2⟩, A, c, rfl, hc, F_step hF (fun k hk hlt => hm k (h1 k hk.symm).1 hlt)⟩
theorem Z_lower (h : Z d e w base ok v xs) (hb : base' ≤ base) : Z d e w base' ok v xs := ⟨fun k hk => ⟨(h.1 k hk).1, Nat.le_trans hb (h.1 k hk).2.1, (h.1 k hk).2.2⟩, h.2⟩
theorem Z_below (h : Z d e w base ok v xs) (hb : Below w.heap.size w w1) : Z d e w1 base ok v xs := Z_step h (fun k _ hk => hb.block k hk)
theorem Z_alloc (h : Z d e w base ok v xs) (o : Obj) : Z d e (w.alloc o) base ok v xs := Z_below h (below_alloc (Below.refl _ _) o)
theorem Z_drewN (h : Z d e w base ok v xs) (m : Nat) : Z d e (w.drewN m) base ok v xs := Z_below h (pw_below_drewN (Below.refl _ _) m)
theorem Z_drew (h : Z d e w base ok v xs) : Z d e w.drew base ok v xs := Z_below h (below_drew (Below.refl _ _))
theorem Z_slice (h : Z d e w base ok v xs) : ∃ A c, v = .slice A xs.length c := let ⟨A, c, e, _⟩ := h.2; ⟨A, c, e⟩
theorem Z_reads' (h : Z d e w base ok (.slice A n c) xs) : n = xs.length ∧ n ≤ c ∧ d.C w A xs.length xs := by
  obtain ⟨_, A', c', he, hc, hF⟩ := h; injection he with h1 h2 h3
  subst h1; subst h2; subst h3; exact ⟨rfl, hc, F_now hF⟩
end
/-- What a row's block holds is read, whatever else turns. -/
theorem F_of_row {w : World} {g t n c : Nat} {cs : Array Value} {fz : Nat × Nat} {xs : List Int} (h : w.heap[g]? = some (.cells cs t fz)) (hc : ∀ (j : Nat) (hj : j < xs.length), cs[j]? = some (.int .u8 xs[j])) (hm : xs.length ≤ 9223372036854775807) :
    F (int .u8) w (fun k => some k = (Value.slice (some ⟨g, 0, none⟩) n c).ownBlock) (some ⟨g, 0, none⟩) xs.length xs := by
  intro W' hW; have h1 := hW g (by simp [Value.ownBlock]) (blk_lt h); rw [h] at h1; refine Go.Proofs.YtofdhdafabmhmaaDoorW.PrintWords.Kd.C_of_reads (enc := Value.int .u8) (d := (0 : Int)) (h1 := fun _ => rfl) ⟨rfl, hm, fun _ => ⟨_, rfl, fun j hj => ?_⟩⟩
  rw [add_plain]; have h2 := hc j hj; simp only [World.cell?, h1, Option.bind_some]; simpa [List.getD_eq_getElem?_getD, List.getElem?_eq_getElem hj] using h2
section
variable {P : Program} {ops : Array Oper} {rest : List Oper} {o : Oper} {a : Act} {Q : Exit → Act → World → Prop}
/-- '[]byte(s)', s a string. -/
theorem Z_bytes {w0 W : World} (base e src dst : Nat) (hgd : o.guard = none) {N : Tmp} (_hd : o.dst = some N) {x : Operand} (s : ByteArray) (hop : o.op = .convert src dst x) (hx : a.eval x = .string s) {u : TypeDesc} (hs : P.underlying src = some u) (hd : P.underlying dst = some (.slice e)) (he : P.underlying e = some (.int .u8))
    (hm : s.size ≤ 9223372036854775807) (HB : Below base w0 W) (hbase : base ≤ W.heap.size)
    (h : ∀ v1 w1, Z (int .u8) e w1 base (fun _ => True) v1 (bytesOf s) → Below base w0 w1 → W.grownBy w1 none → (∃ b, v1.ownBlock = some b ∧ W.heap.size ≤ b) → wpList P ops Q rest (a.put o.dst v1) w1) : wpList P ops Q (o :: rest) a W := by
  have hrun : (execOp a.eval o).run P W = .ok (.value (.slice (some ⟨W.heap.size, 0, none⟩) s.size (grownCap W s.size 0 e))) (Lib.bytesWorld W e s) := by
    unfold execOp; simp [hop, hx, print_bytes src dst e hs hd he s W, Result.andThen]
  have hn := Lib.bytesWorld_at_new W e s; refine Go.Proofs.YtofdhdafabmhmaaDoorW.PrintWords.Kd.event_run hgd hrun (h _ _ ⟨fun k hk => ?_, _, _, by rw [bytesOf_length], ?_, ?_⟩ (bytes_below HB hbase e s) ⟨rfl, rfl, rfl, by rw [Lib.bytesWorld_size]; omega, fun k hk _ => Lib.bytesWorld_at_old W e s k hk⟩ ⟨W.heap.size, by simp [Value.ownBlock], Nat.le_refl _⟩)
  · have : W.heap.size = k := by simpa [Value.ownBlock] using hk
    subst this; exact ⟨trivial, hbase, blk_lt hn⟩
  · rw [bytesOf_length]
    exact grownCap_ge W s.size 0 e
  rw [← bytesOf_length]; refine F_of_row hn (fun j hj => ?_) (by rw [bytesOf_length]; exact hm)
  have hj' : j < s.data.size := by rw [bytesOf_length] at hj; exact hj
  rw [Lib.bytesCells, Array.getElem?_append_left (by simpa using hj')]; simp only [Array.getElem?_map, Array.getElem?_eq_getElem hj', bytesOf, List.getElem_map, Array.getElem_toList, Option.map_some]
end
end Kd
end Go.Proofs.YtofdhdafabmhmaaDoor.Giv
end
section
/- copy(d, s) where an element has some cells: all its cells go over. Conditions: as the theorem says. -/
namespace Go.Proofs.YtofdhdafabmhmaaDoor.Cpy
open Go
variable {P : Program}
theorem run_copy_rows (w : World) (dT sT ty elem : TypeId) (sz g o dLen dCap : Nat) (a : Addr) (sLen sCap : Nat) (cur : Array Value) (t : TypeId) (cs : List Value)
    (hu : P.underlying dT = some (.slice elem)) (hs : (P.info? elem).map (·.size) = some sz)
    (hg : w.heap[g]? = some (.cells cur t (0, 0))) (hn : cs.length = Nat.min sLen dLen * sz)
    (hsrc : ∀ j v, cs[j]? = some v → w.cell? (a.add j) = some v) (hfit : o + cs.length ≤ cur.size) (h1 : ∀ v ∈ cs, v.oneCell' = true) :
    (Builtin.copy_ #[dT, sT] ty #[.slice (some ⟨g, o, none⟩) dLen dCap, .slice (some a) sLen sCap]).run P w =
      .ok (goInt (Nat.min sLen dLen)) (w.setRow g (cur.toList.take o ++ cs ++ cur.toList.drop (o + cs.length)).toArray) := by
  obtain ⟨i, hq, hi⟩ := Option.map_eq_some_iff.1 hs; have rd := run_loadCells_list (P := P) w a cs hsrc; have wr := run_storeCells_at P g o t cs 0 cur w hg (by rw [Nat.add_zero]; exact hfit) h1; simp [Builtin.copy_, run_underlying hu, Builtin.lenOf, Builtin.firstCells, sizeOf, typeInfo, hq, hi, ← hn, rd, wr]
end Go.Proofs.YtofdhdafabmhmaaDoor.Cpy
end
section
/- Words for plain programs with a number of rounds: what is answered from some number of rounds on. Conditions: none. -/
namespace Go.Proofs.YtofdhdafabmhmaaDoor.Evs
open Go.RowKit Go.Proofs.YtofdhdafabmhmaaDoorW.PrintWords Go.Proofs.YtofdhdafabmhmaaDoorW.PrintMore

section
variable {α β : Type} {c : Prop} [Decidable c] {f g : Nat → Option α} {r : α}
theorem ev_ite (h : c → Ev f r) (k : ¬ c → Ev g r) : Ev (fun n => if c then f n else g n) r := by
  by_cases hc : c
  · obtain ⟨K, hK⟩ := h hc
    exact ⟨K, fun n hn => by simp only [if_pos hc]; exact hK n hn⟩
  obtain ⟨K, hK⟩ := k hc; exact ⟨K, fun n hn => by simp only [if_neg hc]; exact hK n hn⟩
theorem ev_pos (hc : c) (h : Ev f r) : Ev (fun n => if c then f n else g n) r := ev_ite (fun _ => h) (fun k => absurd hc k)
theorem ev_neg (hc : ¬ c) (h : Ev g r) : Ev (fun n => if c then f n else g n) r := ev_ite (fun k => absurd k hc) (fun _ => h)
theorem ev_some : Ev (fun _ => some r) r := Ev.now r
theorem ev_eq {r' : α} (h : r' = r) : Ev (fun _ => some r') r := h ▸ Ev.now r'
theorem ev_bind {g : Nat → Option α} {f : Nat → α → Option β} {a : α} {r : β} (h : Ev g a) (k : Ev (fun n => f n a) r) : Ev (fun n => (g n).bind (f n)) r := Ev.bind h k
theorem ev_let {a : α} {f : Nat → α → Option β} {r : β} (k : Ev (fun n => f n a) r) : Ev (fun n => (some a).bind (f n)) r := k
theorem ev_bindc {o : Option α} {a : α} {f : Nat → α → Option β} {r : β} (h : o = some a) (k : Ev (fun n => f n a) r) : Ev (fun n => o.bind (f n)) r := by
  subst h; exact k
theorem ev_step {g : Nat → Option α} {r : α} (k : Ev (fun n => g (n + 1)) r) : Ev g r := Ev.step (fun _ => rfl) k
theorem ev_cast {r r' : α} (h : Ev f r') (e : r' = r) : Ev f r := e ▸ h
end
theorem w64 {x : Int} (h1 : -9223372036854775808 ≤ x) (h2 : x ≤ 9223372036854775807) : wrap64 x = x := by
  unfold wrap64; omega
theorem mx_eq (a b : Int) : mx a b = max a b := by unfold mx; split <;> omega
theorem mn_eq (a b : Int) : mn a b = min a b := by unfold mn; split <;> omega
end Go.Proofs.YtofdhdafabmhmaaDoor.Evs
end
section
/- Digits and what they are worth: plain arithmetic, no program. Conditions: as each statement says. -/
namespace Go.Proofs.YtofdhdafabmhmaaDoor.Dig
/-- What digits are worth, the last one first. -/
def L : List Int → Int
  | [] => 0
  | x :: xs => x + 10 * L xs
def Lw : List Int → Int → Int
  | [], W => W
  | x :: xs, W => x + 10 * Lw xs W
def Dg (l : List Int) : Prop := ∀ x ∈ l, 0 ≤ x ∧ x ≤ 9
def q : Int → Nat → Int
  | B, 0 => B
  | B, i + 1 => q (B / 10) i
def m10 : Int → Nat → Int
  | B, 0 => B
  | B, i + 1 => m10 (10 * B) i
def mulLow (sc : Int) : List Int → Int → List Int
  | [], _ => []
  | x :: xs, c => ((x * sc + c) % 10) :: mulLow sc xs ((x * sc + c) / 10)
def carry (sc : Int) : List Int → Int → Int
  | [], c => c
  | x :: xs, c => carry sc xs ((x * sc + c) / 10)
theorem Dg.tail {x : Int} {xs : List Int} (h : Dg (x :: xs)) : Dg xs := fun y hy => h y (List.mem_cons_of_mem _ hy)
theorem Dg.head {x : Int} {xs : List Int} (h : Dg (x :: xs)) : 0 ≤ x ∧ x ≤ 9 := h x (List.mem_cons_self)
theorem Dg.nil : Dg [] := fun x h => by cases h
theorem Dg.cons {x : Int} {xs : List Int} (h : 0 ≤ x ∧ x ≤ 9) (k : Dg xs) : Dg (x :: xs) := fun y hy => by
  rcases List.mem_cons.1 hy with rfl | hy
  · exact h
  exact k y hy
theorem Dg.app {xs ys : List Int} (h : Dg xs) (k : Dg ys) : Dg (xs ++ ys) := fun y hy => by
  rcases List.mem_append.1 hy with hy | hy
  · exact h y hy
  exact k y hy
theorem Dg.rev {xs : List Int} (h : Dg xs) : Dg xs.reverse := fun y hy => h y (List.mem_reverse.1 hy)
theorem Dg.drop {xs : List Int} (h : Dg xs) (i : Nat) : Dg (xs.drop i) := fun y hy => h y (List.mem_of_mem_drop hy)
theorem Dg.take {xs : List Int} (h : Dg xs) (i : Nat) : Dg (xs.take i) := fun y hy => h y (List.mem_of_mem_take hy)
theorem Dg.zeros (n : Nat) : Dg (List.replicate n 0) := fun y hy => by
  obtain rfl := List.eq_of_mem_replicate hy; decide
theorem Dg.get {xs : List Int} (h : Dg xs) (i : Nat) : 0 ≤ xs.getD i 0 ∧ xs.getD i 0 ≤ 9 := by
  by_cases hi : i < xs.length
  · rw [List.getD_eq_getElem?_getD, List.getElem?_eq_getElem hi]
    exact h _ (List.getElem_mem hi)
  rw [List.getD_eq_getElem?_getD, List.getElem?_eq_none (by omega)]; decide
theorem L_nonneg : ∀ {l : List Int}, Dg l → 0 ≤ L l
  | [], _ => by decide
  | x :: xs, h => by
    have h1 := h.head; have h2 := L_nonneg h.tail; unfold L; omega
theorem q_zero : ∀ i, q 0 i = 0
  | 0 => rfl
  | i + 1 => q_zero i
theorem q_nonneg : ∀ i {B : Int}, 0 ≤ B → 0 ≤ q B i
  | 0, B, h => h
  | i + 1, B, h => q_nonneg i (by omega)
theorem q_mono : ∀ i {A B : Int}, A ≤ B → q A i ≤ q B i
  | 0, A, B, h => h
  | i + 1, A, B, h => q_mono i (by omega)
theorem q_add : ∀ i j (B : Int), q B (i + j) = q (q B i) j
  | 0, j, B => by rw [Nat.zero_add]; rfl
  | i + 1, j, B => by
    rw [show i + 1 + j = (i + j) + 1 by omega]; exact q_add i j (B / 10)
theorem q_one (B : Int) (i : Nat) : q B (i + 1) = q B i / 10 := q_add i 1 B
theorem m10_nonneg : ∀ i {B : Int}, 0 ≤ B → 0 ≤ m10 B i
  | 0, B, h => h
  | i + 1, B, h => m10_nonneg i (by omega)
theorem m10_mono : ∀ i {A B : Int}, A ≤ B → m10 A i ≤ m10 B i
  | 0, A, B, h => h
  | i + 1, A, B, h => m10_mono i (by omega)
theorem m10_le : ∀ i {B : Int}, 0 ≤ B → B ≤ m10 B i
  | 0, B, h => Int.le_refl _
  | i + 1, B, h => by
    have := m10_le i (B := 10 * B) (by omega)
    show B ≤ m10 (10 * B) i
    omega
theorem m10_add : ∀ i j (B : Int), m10 B (i + j) = m10 (m10 B i) j
  | 0, j, B => by rw [Nat.zero_add]; rfl
  | i + 1, j, B => by
    rw [show i + 1 + j = (i + j) + 1 by omega]; exact m10_add i j (10 * B)
theorem m10_one (B : Int) (i : Nat) : m10 B (i + 1) = 10 * m10 B i := m10_add i 1 B
theorem m10_mul (c : Int) : ∀ i (B : Int), m10 (B * c) i = m10 B i * c
  | 0, B => rfl
  | i + 1, B => by
    show m10 (10 * (B * c)) i = m10 (10 * B) i * c
    rw [← Int.mul_assoc]; exact m10_mul c i (10 * B)
theorem q_m10 : ∀ i (B : Int), q (m10 B i) i = B
  | 0, B => rfl
  | i + 1, B => by
    rw [q_one, show m10 B (i + 1) = m10 (10 * B) i from rfl, q_m10 i]; omega
theorem L_drop : ∀ {l : List Int}, Dg l → ∀ i, L (l.drop i) = q (L l) i
  | l, _, 0 => rfl
  | [], _, i + 1 => by
    show (0 : Int) = q 0 (i + 1)
    rw [q_zero]
  | x :: xs, h, i + 1 => by
    show L (xs.drop i) = q ((x + 10 * L xs) / 10) i
    have h1 := h.head; rw [show (x + 10 * L xs) / 10 = L xs by omega]; exact L_drop h.tail i
theorem Lw_zero : ∀ l, Lw l 0 = L l
  | [] => rfl
  | x :: xs => by
    show x + 10 * Lw xs 0 = x + 10 * L xs
    rw [Lw_zero xs]
theorem L_app : ∀ lo hi, L (lo ++ hi) = Lw lo (L hi)
  | [], hi => rfl
  | x :: xs, hi => by
    show x + 10 * L (xs ++ hi) = x + 10 * Lw xs (L hi)
    rw [L_app xs hi]
theorem L_zeros : ∀ n, L (List.replicate n 0) = 0
  | 0 => rfl
  | n + 1 => by
    show (0 : Int) + 10 * L (List.replicate n 0) = 0
    rw [L_zeros n]; decide
theorem L_app_zeros (l : List Int) (n : Nat) : L (l ++ List.replicate n 0) = L l := by rw [L_app, L_zeros, Lw_zero]
/-- The step of a product. -/
theorem mul_step (x Y sc c : Int) : (x + 10 * Y) * sc + c = (x * sc + c) + 10 * (Y * sc) := by
  rw [Int.add_mul, Int.mul_assoc]; omega
theorem carry_q (sc W : Int) : ∀ (lo : List Int) (c : Int), q (Lw lo W * sc + c) lo.length = W * sc + carry sc lo c
  | [], c => rfl
  | x :: xs, c => by
    show q (((x + 10 * Lw xs W) * sc + c) / 10) xs.length = W * sc + carry sc xs ((x * sc + c) / 10)
    rw [mul_step, show ((x * sc + c) + 10 * (Lw xs W * sc)) / 10 = Lw xs W * sc + (x * sc + c) / 10 by omega]; exact carry_q sc W xs _
theorem mulLow_get (sc W : Int) : ∀ (lo : List Int) (c : Int) (i : Nat), i < lo.length → (mulLow sc lo c).getD i 0 = q (Lw lo W * sc + c) i % 10
  | [], c, i, h => by cases h
  | x :: xs, c, 0, h => by
    show (x * sc + c) % 10 = ((x + 10 * Lw xs W) * sc + c) % 10
    rw [mul_step]; omega
  | x :: xs, c, i + 1, h => by
    show (mulLow sc xs ((x * sc + c) / 10)).getD i 0 = q (((x + 10 * Lw xs W) * sc + c) / 10) i % 10
    rw [mul_step, show ((x * sc + c) + 10 * (Lw xs W * sc)) / 10 = Lw xs W * sc + (x * sc + c) / 10 by omega]; exact mulLow_get sc W xs _ i (by simpa using h)
theorem mulLow_len (sc : Int) : ∀ (lo : List Int) (c : Int), (mulLow sc lo c).length = lo.length
  | [], c => rfl
  | x :: xs, c => by
    show (mulLow sc xs _).length + 1 = xs.length + 1
    rw [mulLow_len sc xs]
theorem mul_bd {x sc : Int} (hx : 0 ≤ x ∧ x ≤ 9) (hs : 0 ≤ sc) : 0 ≤ x * sc ∧ x * sc ≤ 9 * sc := ⟨Int.mul_nonneg hx.1 hs, Int.mul_le_mul_of_nonneg_right hx.2 hs⟩
theorem carry_bd {sc : Int} (hs : 1 ≤ sc) : ∀ {lo : List Int}, Dg lo → ∀ {c : Int}, 0 ≤ c → c < sc → 0 ≤ carry sc lo c ∧ carry sc lo c < sc
  | [], _, c, h0, h1 => ⟨h0, h1⟩
  | x :: xs, h, c, h0, h1 => by
    have h2 := mul_bd h.head (show 0 ≤ sc by omega); exact carry_bd hs h.tail (c := (x * sc + c) / 10) (by omega) (by omega)
/-- The rounded value: B, of which so many digits stand behind the point (below 0: as many noughts behind them). -/
def S (B b : Int) : Int := if b < 0 then m10 B (-b).toNat else q B b.toNat + (if 0 < b ∧ q B (b.toNat - 1) % 10 ≥ 5 then 1 else 0)
/-- The first digits, and noughts behind them. -/
def hv (l : List Int) : Nat → Int
  | 0 => 0
  | i + 1 => 10 * hv l i + l.getD i 0
theorem hv_nonneg {l : List Int} (h : Dg l) : ∀ i, 0 ≤ hv l i
  | 0 => Int.le_refl _
  | i + 1 => by
    have h1 := hv_nonneg h i; have h2 := h.get i; show 0 ≤ 10 * hv l i + l.getD i 0
    omega
theorem hv_lt {l : List Int} (h : Dg l) : ∀ i, hv l i + 1 ≤ m10 1 i
  | 0 => Int.le_refl _
  | i + 1 => by
    have h1 := hv_lt h i; have h2 := h.get i; rw [m10_one]; show 10 * hv l i + l.getD i 0 + 1 ≤ 10 * m10 1 i
    omega
theorem m10_13 {i : Nat} (h : i ≤ 13) : m10 1 i ≤ 10000000000000 := by
  have : ∀ j, j ≤ 13 → m10 1 j ≤ 10000000000000 := by decide
  exact this i h
theorem hv_take {l : List Int} : ∀ i, i ≤ l.length → hv l i = L ((l.take i).reverse)
  | 0, h => rfl
  | i + 1, h => by
    show 10 * hv l i + l.getD i 0 = _
    rw [hv_take i (by omega), List.take_succ_eq_append_getElem (by omega), List.reverse_append]; show _ = l[i] + 10 * L ((l.take i).reverse)
    rw [List.getD_eq_getElem?_getD, List.getElem?_eq_getElem (by omega)]; simp only [Option.getD_some]; omega
theorem hv_more {l : List Int} : ∀ j, hv l (l.length + j) = m10 (hv l l.length) j
  | 0 => rfl
  | j + 1 => by
    rw [m10_one, ← hv_more j]; show 10 * hv l (l.length + j) + l.getD (l.length + j) 0 = _
    rw [List.getD_eq_getElem?_getD, List.getElem?_eq_none (by omega)]; simp
theorem L_big : ∀ {l : List Int}, Dg l → (h : l ≠ []) → 1 ≤ l.getLast h → m10 1 (l.length - 1) ≤ L l
  | [x], hd, h, h1 => by
    show (1 : Int) ≤ x + 10 * 0
    have : 1 ≤ x := h1
    omega
  | x :: y :: ys, hd, h, h1 => by
    have hi := L_big hd.tail (by simp) (by rw [List.getLast_cons (by simp)] at h1; exact h1); have hx := hd.head; show m10 1 (ys.length + 1) ≤ x + 10 * L (y :: ys)
    have hi2 : m10 1 ys.length ≤ L (y :: ys) := hi; rw [m10_one]; omega
theorem m10_11 {i : Nat} (h : 11 ≤ i) : 100000000000 ≤ m10 1 i := by
  obtain ⟨j, rfl⟩ := Nat.exists_eq_add_of_le h; rw [m10_add]; exact m10_le j (by decide)
/-- What is beyond all lengths. -/
theorem S_big {sc : Int} (hs : 1 ≤ sc) {d : List Int} (hd : Dg d) (hne : d ≠ []) (h1 : 1 ≤ d.getLast hne) {point : Int} (hp : 13 < point) : 68719476736 < S (L d * sc) ((d.length : Int) - point) := by
  have hL := L_big hd hne h1; have hlen : 0 < d.length := List.length_pos_iff.2 hne; have hL0 := L_nonneg hd; have hmul : L d ≤ L d * sc := by
    have := Int.mul_le_mul_of_nonneg_left hs hL0
    omega
  unfold S; by_cases hb : (d.length : Int) - point < 0
  · rw [if_pos hb]
    have e := m10_mono (-((d.length : Int) - point)).toNat hmul; have e2 := m10_mono (-((d.length : Int) - point)).toNat hL; rw [← m10_add] at e2; have e3 := m10_11 (i := d.length - 1 + (-((d.length : Int) - point)).toNat) (by omega); omega
  rw [if_neg hb]; have e := q_mono ((d.length : Int) - point).toNat hmul; rw [← L_drop hd] at e; have hdl : ((d.drop ((d.length : Int) - point).toNat)).length = d.length - ((d.length : Int) - point).toNat := List.length_drop; have hne2 : d.drop ((d.length : Int) - point).toNat ≠ [] := by
    intro k; rw [k] at hdl; simp only [List.length_nil] at hdl; omega
  have e2 := L_big (hd.drop _) hne2 (by rw [List.getLast_drop]; exact h1); have e3 := m10_11 (i := (d.drop ((d.length : Int) - point).toNat).length - 1) (by omega); split <;> omega
theorem S_small {sc : Int} (hs : 1 ≤ sc) (hs2 : sc ≤ 1000) {d : List Int} (hd : Dg d) {point : Int} (hp : point < -5) : S (L d * sc) ((d.length : Int) - point) = 0 := by
  have hc := carry_bd hs hd (c := 0) (by omega) (by omega); have h0 : q (L d * sc) d.length = carry sc d 0 := by
    have := carry_q sc 0 d 0
    rw [Lw_zero, Int.zero_mul, Int.zero_add, Int.add_zero] at this; exact this
  have h3 : ∀ j, 3 ≤ j → q (L d * sc) (d.length + j) = 0 := by
    intro j hj; obtain ⟨i, rfl⟩ := Nat.exists_eq_add_of_le hj; rw [q_add, h0, q_add]; have : q (carry sc d 0) 3 = 0 := by
      show carry sc d 0 / 10 / 10 / 10 = 0
      omega
    rw [this, q_zero]
  unfold S; rw [if_neg (by omega)]; have e1 := h3 (((d.length : Int) - point).toNat - d.length) (by omega); have e2 := h3 (((d.length : Int) - point).toNat - 1 - d.length) (by omega); rw [show d.length + (((d.length : Int) - point).toNat - d.length) = ((d.length : Int) - point).toNat by omega] at e1; rw [show d.length + (((d.length : Int) - point).toNat - 1 - d.length) = ((d.length : Int) - point).toNat - 1 by omega] at e2; rw [e1, e2, if_neg (by omega)]; rfl
theorem S_zero (b : Int) : S 0 b = 0 := by
  have : ∀ i, m10 0 i = 0 := by
    intro i; induction i with
    | zero => rfl
    | succ i ih => rw [m10_one, ih]; rfl
  unfold S; split
  · exact this _
  rw [q_zero, q_zero, if_neg (by omega)]; rfl
end Go.Proofs.YtofdhdafabmhmaaDoor.Dig
end
