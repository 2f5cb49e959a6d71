/- area.boxes: what its map tells of its list: plain laws. -/
import Derived.Test.YtaalmkkekbhpnaaArBoxF
import Derived.Maps.OwnIn
import Derived.Maps.Views
set_option linter.unusedVariables false
set_option linter.unusedSimpArgs false
namespace Go.Proofs.Ytaalmkkekbhpnaa.Giv
open Go.RowKit Go.Proofs.YtaalmkkekbhpnaaW.PrintWords Go.Proofs.YtaalmkkekbhpnaaW.PrintLast Go.Proofs.YtaalmkkekbhpnaaW.PrintMore
open Go.Proofs.Ytaalmkkekbhpnaa.Opn Go.Proofs.Ytaalmkkekbhpnaa.PRa
open Go
def arKey (s : ByteArray) : Lit := .string s.data.toList
theorem arKey_ne {s t : ByteArray} (h : s ≠ t) : arKey s ≠ arKey t := by
  intro e
  apply h
  obtain ⟨a⟩ := s
  obtain ⟨b⟩ := t
  have : a.toList = b.toList := by injection e
  rw [Array.toList_inj.1 this]
theorem arKey_lit (s : ByteArray) : WideAt.IsKeyLit (arKey s) := by
  first | trivial | exact ⟨_, rfl⟩ | simp [arKey, WideAt.IsKeyLit]
/-- The map tells of each name where it stands in the list. -/
structure ArTells (D : DataW Unit) (out : List S32) : Prop where
  m : Maps.IsMap D
  h : ∀ s, Maps.has D (arKey s) = (area_boxes.at_ s out).isSome
  a : ∀ s k, area_boxes.at_ s out = some k → ∀ z, D.atKey (arKey s) z = .lit (.int .i64 (k : Nat))
theorem ar_at_snoc (s : ByteArray) (b : S32) : ∀ out, area_boxes.at_ s (out ++ [b]) = (match area_boxes.at_ s out with | some k => some k | none => if b.f0 = s then some out.length else none)
  | [] => by
    simp only [List.nil_append, area_boxes.at_]
    split <;> rfl
  | x :: out => by
    have ih := ar_at_snoc s b out
    simp only [List.cons_append, area_boxes.at_]
    by_cases hx : x.f0 = s
    · simp [hx]
    · simp only [if_neg hx, ih]
      cases area_boxes.at_ s out with
      | some k => rfl
      | none =>
        by_cases hb : b.f0 = s
        · simp [hb]
        · simp [hb]
theorem ar_at_lt (s : ByteArray) : ∀ out k, area_boxes.at_ s out = some k → k < out.length
  | [], _, h => by simp [area_boxes.at_] at h
  | x :: out, k, h => by
    simp only [area_boxes.at_] at h
    split at h
    · cases h
      simp
    · cases h1 : area_boxes.at_ s out with
      | none => rw [h1] at h; cases h
      | some j =>
        rw [h1] at h
        cases h
        have := ar_at_lt s out j h1
        simp only [List.length_cons]
        omega
theorem ar_at_names (s : ByteArray) : ∀ (out out' : List S32), out.map (·.f0) = out'.map (·.f0) → area_boxes.at_ s out = area_boxes.at_ s out'
  | [], [], _ => rfl
  | [], _ :: _, h => by simp at h
  | _ :: _, [], h => by simp at h
  | x :: out, y :: out', h => by
    simp only [List.map_cons, List.cons.injEq] at h
    simp only [area_boxes.at_, h.1, ar_at_names s out out' h.2]
theorem ar_at_some (s : ByteArray) : ∀ (out : List S32) (k : Nat), area_boxes.at_ s out = some k → ∃ b, out[k]? = some b ∧ b.f0 = s
  | [], k, h => by simp [area_boxes.at_] at h
  | x :: out, k, h => by
    unfold area_boxes.at_ at h
    split at h
    · rename_i h1
      cases h
      exact ⟨x, rfl, h1⟩
    · cases h1 : area_boxes.at_ s out with
      | none => rw [h1] at h; cases h
      | some j =>
        rw [h1] at h
        cases h
        obtain ⟨b, hb, hs⟩ := ar_at_some s out j h1
        exact ⟨b, by simpa using hb, hs⟩
theorem ArTells.nil : ArTells (.map []) [] := ⟨⟨_, rfl⟩, fun s => rfl, fun s k h => by simp [area_boxes.at_] at h⟩
theorem ArTells.put {D : DataW Unit} {out : List S32} (h : ArTells D out) (b : S32) (hb : area_boxes.at_ b.f0 out = none) : ArTells (D.put (arKey b.f0) (.lit (.int .i64 out.length))) (out ++ [b]) := by
  refine ⟨?_, fun s => ?_, fun s k hk z => ?_⟩
  · obtain ⟨es, rfl⟩ := h.m
    first | exact ⟨_, rfl⟩ | exact Maps.isMap_put ⟨_, rfl⟩ _ _
  · by_cases hs : b.f0 = s
    · subst hs
      rw [Maps.has_put_same h.m (arKey_lit _), ar_at_snoc, hb]
      simp
    · rw [Maps.has_put_other (arKey_ne (Ne.symm hs)), h.h, ar_at_snoc]
      cases area_boxes.at_ s out <;> simp [hs]
  · rw [ar_at_snoc] at hk
    by_cases hs : b.f0 = s
    · subst hs
      rw [hb] at hk
      simp only [if_true, Option.some.injEq] at hk
      subst hk
      exact Maps.atKey_put_same h.m (arKey_lit _) _ _
    · rw [Maps.atKey_put_other (arKey_ne (Ne.symm hs))]
      cases ha : area_boxes.at_ s out with
      | none => rw [ha] at hk; simp [hs] at hk
      | some j =>
        rw [ha] at hk
        cases hk
        exact h.a s _ ha z
theorem ArTells.same {D : DataW Unit} {out out' : List S32} (h : ArTells D out) (hn : out.map (·.f0) = out'.map (·.f0)) : ArTells D out' :=
  ⟨h.m, fun s => by rw [h.h, ar_at_names s out out' hn], fun s k hk z => h.a s k (by rw [ar_at_names s out out' hn, hk]) z⟩
end Go.Proofs.Ytaalmkkekbhpnaa.Giv
