/- Arguments that are read as data, laid open as plain values: for any kind of whole numbers, bools, strings, slices and structs, out of the form's own reading. Conditions: none beyond what the reading itself says. -/
import Derived.SizedLaws
import Derived.ChangeSlices
import Derived.ProofKit
import Derived.OpenShut
import Derived.Carry
import Derived.Deep.Slices
import Derived.WideShapes
import Derived.Test.YtaalmkkekbhpnaaWWords
set_option linter.unusedVariables false
set_option linter.unusedSimpArgs false
namespace Go.Proofs.Ytaalmkkekbhpnaa.Opn
open Go.RowKit Go.Proofs.YtaalmkkekbhpnaaW.PrintWords Go.WideShapes Go.Deep

/-- What is known of arguments: whole numbers are of their kinds; strings and slices take no more room than can be read. -/
abbrev gInt (k : IntKind) (n : Int) : Prop := (Lit.int k n).wf = true
abbrev gBool (_ : Bool) : Prop := True
abbrev gStr (s : ByteArray) : Prop := s.size ≤ 140737488351232
abbrev gSl {α : Type} (B : Nat) (G : α → Prop) (xs : List α) : Prop := xs.length * B ≤ 140737488351232 ∧ ∀ x ∈ xs, G x

/-- A value of type t that is read as data is one of kind d, and good. -/
structure Opens (P : Program) (t : TypeId) {α : Type} (d : Kd α) (G : α → Prop) : Prop where
  go : ∀ {H : Type} {enc : TypeId × Value → H} {w : World} {base : Nat} {spare : Nat → Bool} {held : Bool} {fuel : Nat} {cs : List Value} {x : DataW H × List MemPlace},
    DataW.trod enc P w base spare held fuel t cs = some x → (∀ n ∈ x.1.weights P t, n ≤ reachBytes) → ∃ a, d.K w a cs ∧ G a

theorem opens_int {P : Program} {t : TypeId} {k : IntKind} (ht : P.underlying t = some (.int k)) : Opens P t (Kd.int k) (gInt k) :=
  ⟨fun h _ => by
    obtain ⟨n, rfl, _, hw⟩ := DataW.trod_int ht h
    exact ⟨n, rfl, hw⟩⟩
theorem opens_bool {P : Program} {t : TypeId} (ht : P.underlying t = some .bool) : Opens P t Kd.bool gBool :=
  ⟨fun h _ => by
    obtain ⟨n, rfl, _⟩ := DataW.trod_bool ht h
    exact ⟨n, rfl, trivial⟩⟩
theorem opens_string {P : Program} {t : TypeId} (ht : P.underlying t = some .string) : Opens P t Kd.string gStr :=
  ⟨fun h hz => by
    obtain ⟨s, rfl, rfl, _⟩ := DataW.trod_string ht h
    refine ⟨s, rfl, ?_⟩
    have z := hz s.data.toList.length (by simp [DataW.weights])
    rw [Array.length_toList] at z
    exact z⟩

theorem weightsAll_mem {H : Type} {P : Program} {e : TypeId} : ∀ {ds : List (DataW H)} {d : DataW H}, d ∈ ds → ∀ n ∈ d.weights P e, n ∈ DataW.weightsAll P e ds
  | [], _, h, _, _ => by simp at h
  | d0 :: r, d, h, n, hn => by
    simp only [DataW.weightsAll, List.mem_append]
    rcases List.mem_cons.1 h with rfl | h
    · exact .inl hn
    · exact .inr (weightsAll_mem h n hn)

theorem list_of_index {α : Type} (Q : Nat → α → Prop) : ∀ n : Nat, (∀ i, i < n → ∃ a, Q i a) → ∃ l : List α, l.length = n ∧ ∀ i a, l[i]? = some a → Q i a
  | 0, _ => ⟨[], rfl, by simp⟩
  | n + 1, h => by
    obtain ⟨l, hl, hq⟩ := list_of_index Q n (fun i hi => h i (by omega))
    obtain ⟨a, ha⟩ := h n (by omega)
    refine ⟨l ++ [a], by simp [hl], fun i b hb => ?_⟩
    rw [List.getElem?_append] at hb
    split at hb
    · exact hq i b hb
    · rename_i hi
      have : i = n := by
        by_cases h2 : i - l.length = 0
        · omega
        · rw [List.getElem?_eq_none (by simp; omega)] at hb
          cases hb
      subst this
      rw [hl, Nat.sub_self] at hb
      simp at hb
      subst hb
      exact ha

theorem opens_slice {P : Program} {t e : TypeId} {α : Type} {d : Kd α} {G : α → Prop} {B : Nat} (ht : P.underlying t = some (.slice e)) (hc : P.cellsOf e = d.sz) (hB : P.bytesOf e = B) (o : Opens P e d G) :
    Opens P t (Kd.slice e d) (gSl B G) :=
  ⟨fun {H enc w base spare held fuel cs x} h hz => by
    rcases open_slice ht h with ⟨rfl, rfl⟩ | ⟨a, len, cap, m, n, D, Pl, rfl, _, hl, hm, hmm, rfl, hx⟩
    · exact ⟨[], ⟨none, 0, rfl, Nat.le_refl _, Kd.C_nil _ _⟩, by simp, by simp⟩
    · have hlm : len ≤ m := by rw [hmm]; split <;> omega
      obtain ⟨l, hlen, hq⟩ := list_of_index (fun i (b : α) => (∃ c, w.cells? base (a.add (i * P.cellsOf e)) (P.cellsOf e) = some c ∧ d.K w b c) ∧ G b) len (fun i hi => by
        obtain ⟨c, h1, h2⟩ := hx i (by omega)
        obtain ⟨b, hb, hg⟩ := o.go h2 (fun k hk => hz k (by
          simp only [DataW.weights, ht]
          refine List.mem_cons_of_mem _ (List.mem_append_left _ (weightsAll_mem ?_ k hk))
          exact List.mem_map.2 ⟨i, by simpa using hi, rfl⟩))
        exact ⟨b, ⟨c, h1, hb⟩, hg⟩)
      refine ⟨l, ⟨some a, cap, by rw [hlen], by omega, ?_⟩, ?_, ?_⟩
      · refine ⟨rfl, by unfold maxLen at hm; omega, fun _ => ⟨a, rfl, fun j p hj => ?_⟩⟩
        obtain ⟨⟨c, h1, hK⟩, _⟩ := hq j p hj
        obtain ⟨_, hcl, hcell⟩ := World.cells?_some h1
        refine ⟨c, by rw [hcl, hc], hK, fun i u hu => ?_⟩
        have hi := (List.getElem?_eq_some_iff.1 hu).1
        have := hcell i (by omega)
        rw [hu] at this
        rw [← this, Go.Deep.add_add, hc]
      · have := hz ((((List.range len).map D).length + ((List.range (m - len)).map fun j => D (len + j)).length) * P.bytesOf e) (by simp [DataW.weights, ht])
        rw [hB] at this
        simp only [List.length_map, List.length_range] at this
        rw [hlen]
        refine Nat.le_trans (Nat.mul_le_mul_right _ ?_) this
        omega
      · intro b hb
        obtain ⟨i, hi⟩ := List.mem_iff_getElem?.1 hb
        exact (hq i b hi).2⟩

/-- The fields of a struct, from one on: their cells begin at off. -/
structure OpensF (P : Program) (fs : List Field) (off : Nat) {α : Type} (d : Kd α) (G : α → Prop) : Prop where
  go : ∀ {H : Type} {enc : TypeId × Value → H} {w : World} {base : Nat} {spare : Nat → Bool} {held : Bool} {n : Nat} {cs : List Value} {xs : List (DataW H × List MemPlace)},
    cs.length = off + d.sz → xs.length = fs.length →
    (∀ (i : Nat) (f : Field), fs[i]? = some f → DataW.trod enc P w base spare held n f.type ((cs.drop f.offset).take (P.cellsOf f.type)) = xs[i]?) →
    (∀ k ∈ DataW.weightsEach P (fs.map (·.type)) (xs.map (·.1)), k ≤ reachBytes) → ∃ a, d.K w a (cs.drop off) ∧ G a

theorem opensF_one {P : Program} {f : Field} {off : Nat} {α : Type} {d : Kd α} {G : α → Prop} (ho : f.offset = off) (hc : P.cellsOf f.type = d.sz) (o : Opens P f.type d G) : OpensF P [f] off d G :=
  ⟨fun {H enc w base spare held n cs xs} hl hx ht hw => by
    match xs, hx with
    | [y], _ =>
      have h0 := ht 0 f rfl
      rw [ho, hc, List.take_of_length_le (by rw [List.length_drop]; omega)] at h0
      exact o.go h0 (fun k hk => hw k (by simpa [DataW.weightsEach] using hk))⟩

theorem opensF_cons {P : Program} {f : Field} {fs : List Field} {off : Nat} {α β : Type} {d : Kd α} {d' : Kd β} {G : α → Prop} {G' : β → Prop} (ho : f.offset = off) (hc : P.cellsOf f.type = d.sz) (o : Opens P f.type d G)
    (o' : OpensF P fs (off + d.sz) d' G') : OpensF P (f :: fs) off (Kd.pair d d') (fun x => G x.1 ∧ G' x.2) :=
  ⟨fun {H enc w base spare held n cs xs} hl hx ht hw => by
    match xs, hx with
    | y :: ys, hx =>
      have hl' : cs.length = off + (d.sz + d'.sz) := hl
      have h0 := ht 0 f rfl
      rw [ho, hc] at h0
      obtain ⟨a, ha, hg⟩ := o.go h0 (fun k hk => hw k (by simp [DataW.weightsEach, hk]))
      obtain ⟨b, hb, hg'⟩ := o'.go (cs := cs) (xs := ys) (by omega) (by simpa using hx) (fun i f' hf => by simpa using ht (i + 1) f' (by simpa using hf)) (fun k hk => hw k (by simp [DataW.weightsEach, hk]))
      refine ⟨(a, b), ⟨(cs.drop off).take d.sz, cs.drop (off + d.sz), ?_, ha, hb⟩, hg, hg'⟩
      rw [← List.drop_drop, List.take_append_drop]⟩

theorem opens_struct {P : Program} {t : TypeId} {fs : Array Field} {α : Type} {d : Kd α} {G : α → Prop} (ht : P.underlying t = some (.struct fs)) (hc : P.cellsOf t = d.sz) (o : OpensF P fs.toList 0 d G) : Opens P t d G :=
  ⟨fun h hz => by
    obtain ⟨xs, n, _, rfl, hl, hlen, hf⟩ := DataW.trod_struct ht h
    obtain ⟨a, ha, hg⟩ := o.go (by rw [hl, hc, Nat.zero_add]) (by simpa using hlen) (fun i f hi => hf i f (by simpa using hi)) (fun k hk => hz k (by simpa [DataW.weights, ht] using hk))
    exact ⟨a, by simpa using ha, hg⟩⟩

theorem opens_iso {P : Program} {t : TypeId} {α β : Type} {d : Kd α} {G : α → Prop} {f : β → α} (g : α → β) (hf : ∀ a, f (g a) = a) (o : Opens P t d G) : Opens P t (Kd.iso d f) (fun b => G (f b)) :=
  ⟨fun h hz => by
    obtain ⟨a, ha, hg⟩ := o.go h hz
    refine ⟨g a, ?_, ?_⟩
    · show d.K _ (f (g a)) _
      rw [hf]
      exact ha
    · show G (f (g a))
      rw [hf]
      exact hg⟩

/-- What one of several arguments weighs. -/
theorem weighs {H : Type} {P : Program} {ts : List TypeId} {ds : List (DataW H)} (h : (DataW.weightsEach P ts ds).all (· ≤ reachBytes) = true) {j : Nat} {t : TypeId} {d : DataW H} (ht : ts[j]? = some t) (hd : ds[j]? = some d) :
    ∀ n ∈ d.weights P t, n ≤ reachBytes := fun n hn => by
  have := List.all_eq_true.1 h n (DataW.weights_mem_each ht hd n hn)
  simpa using this

section
variable {H : Type} {enc : TypeId × Value → H} {P : Program} {W : World} {base : Nat} {spare : Nat → Bool} {held : Bool} {t : TypeId} {α : Type} {d : Kd α} {D : DataW H} {ps : List MemPlace}
theorem arg_slice {e : TypeId} {G : List α → Prop} {a : Option Addr} {len cap : Nat} (o : Opens P t (Kd.slice e d) G) (h : DataW.Trod enc P W base spare held t (.slice a len cap) D ps) (hw : ∀ n ∈ D.weights P t, n ≤ reachBytes) :
    ∃ xs : List α, len = xs.length ∧ xs.length ≤ cap ∧ d.C W a xs.length xs ∧ G xs := by
  obtain ⟨fuel, hf⟩ := h
  obtain ⟨xs, ⟨A, c, he, hl, hr⟩, hg⟩ := o.go hf hw
  simp only [Value.cells, List.cons.injEq, Value.slice.injEq, and_true] at he
  obtain ⟨rfl, rfl, rfl⟩ := he
  exact ⟨xs, rfl, hl, hr, hg⟩
theorem array_of {cs : Array Value} {l : List Value} (h : cs.toList = l) : cs = l.toArray := by rw [← h]
theorem arg_agg {G : α → Prop} {cs : Array Value} (o : Opens P t d G) (h : DataW.Trod enc P W base spare held t (.agg cs) D ps) (hw : ∀ n ∈ D.weights P t, n ≤ reachBytes) : ∃ x : α, d.K W x cs.toList ∧ G x := by
  obtain ⟨fuel, hf⟩ := h
  exact o.go hf hw
end
end Go.Proofs.Ytaalmkkekbhpnaa.Opn
namespace Go.Proofs.Ytaalmkkekbhpnaa.Giv
end Go.Proofs.Ytaalmkkekbhpnaa.Giv
