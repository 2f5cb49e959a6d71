/- Where something stands along an axis (layers 7 and 18): what line.Good and resolve's functions answer, in the program and in the document's words. Conditions: light tables. -/
import Derived.Test.YtaalmkkekbhpnaaPRax9
import Derived.Test.YtaalmkkekbhpnaaPRax10
import Derived.Test.YtaalmkkekbhpnaaPureRsNm2
import Derived.Test.YtaalmkkekbhpnaaPureRsCu
set_option linter.unusedVariables false
set_option linter.unusedSimpArgs false
namespace Go.Proofs.Ytaalmkkekbhpnaa.PureRs
open Go.RowKit Go.Proofs.YtaalmkkekbhpnaaW.PrintWords Go.Proofs.YtaalmkkekbhpnaaW.PrintMore Go.Proofs.Ytaalmkkekbhpnaa.Evs Go.Proofs.Ytaalmkkekbhpnaa.Giv Go.Proofs.Ytaalmkkekbhpnaa.Opn Go.Proofs.Ytaalmkkekbhpnaa.PRa Go.Proofs.Ytaalmkkekbhpnaa.PureRsNm Go.Proofs.Ytaalmkkekbhpnaa.PureRsCu

theorem ev_const {α : Type} {o : Option α} {r : α} (h : o = some r) : Ev (fun _ => o) r := h ▸ Ev.now r
theorem empty_list : (⟨#[]⟩ : ByteArray).toList = ([] : List UInt8) := by rw [ByteArray.toList_eq]
theorem custom_nil {s : ByteArray} (h : s.toList = []) : custom s = false := by
  have : isName s = false := by unfold isName; rw [if_pos h]
  unfold custom
  rw [this]
  split <;> rfl

/-! ### A line that may be -/
def goodL (k n : Int) (s : ByteArray) : Bool :=
  if k = 1 then (if n = 0 then s.toList == ([] : List UInt8) else false)
  else if k = 2 then (if n = 0 then false else if n ≥ (-10000) then (if n ≤ 10000 then (if s.toList = ([] : List UInt8) then true else custom s) else false) else false)
  else if k = 3 then (if n = 0 then custom s else false)
  else if k = 4 then (if n ≥ 1 then (if n ≤ 10000 then (if s.toList = ([] : List UInt8) then true else custom s) else false) else false)
  else false
theorem good_step (k n : Int) (s : ByteArray) (b : Bool) (hb : b = if s.toList = ([] : List UInt8) then true else custom s) : Ev (fun r => line_Good.j0 r b k n s) (goodL k n s) := by
  refine ev_step ?_
  simp only [line_Good.j0, line_auto.f, Option.bind_some, empty_list]
  refine ev_const ?_
  unfold goodL
  by_cases h1 : k = 1
  · subst h1
    by_cases h2 : n = 0
    · subst h2
      simp
    · simp [h2]
  · rw [if_neg h1, if_neg h1]
    by_cases h2 : k = 2
    · rw [if_pos h2, if_pos h2, ← hb]
      repeat' split
      all_goals first | rfl | omega
    · rw [if_neg h2, if_neg h2]
      by_cases h3 : k = 3
      · rw [if_pos h3, if_pos h3]
        by_cases h4 : n = 0
        · rw [if_pos h4, if_pos h4]
          by_cases h5 : s.toList = ([] : List UInt8)
          · rw [if_pos h5, custom_nil h5]
          · rw [if_neg h5, hb, if_neg h5]
        · rw [if_neg h4, if_neg h4]
      · rw [if_neg h3, if_neg h3]
        rw [← hb]
        repeat' split
        all_goals first | rfl | omega
theorem good_ev (k n : Int) (s : ByteArray) (hs : s.size ≤ 140737488351232) : Ev (fun r => line_Good.f r k n s) (goodL k n s) := by
  unfold line_Good.f
  refine ev_ite (fun h => good_step k n s true ?_) (fun h => ev_bindc (custom_f s hs) (good_step k n s _ ?_))
  · rw [if_pos h]
  · rw [if_neg h]

/-! ### Clamp, Good -/
def clampV (a b : Int) : Int × Int := if a ≥ b then (0, 1) else if a ≥ 10000 then (9999, 10000) else if b ≤ (-10000) then ((-10000), (-9999)) else (mx a (-10000), mn b 10000)
theorem clamp_f (a b : Int) : resolve_Clamp.f a b = some (clampV a b) := by
  unfold resolve_Clamp.f clampV
  repeat' split
  all_goals rfl
theorem clamp_bd (a b : Int) : -10000 ≤ (clampV a b).1 ∧ (clampV a b).1 < (clampV a b).2 ∧ (clampV a b).2 ≤ 10000 := by
  unfold clampV
  rw [mx_eq, mn_eq]
  repeat' split
  all_goals simp only <;> omega
/-! ### sure, far -/
def sureV (t : List (List ByteArray)) (k n : Int) (s : ByteArray) (e : Bool) : Int × Bool :=
  if k = 3 then (if (edgeV t s e).2 = true then ((edgeV t s e).1, true) else (nthV t s 1, true)) else if k = 2 then (nthV t s n, true) else (0, false)
theorem sure_ev (t : List (List ByteArray)) (k n : Int) (s : ByteArray) (e : Bool) (ht : Small t) (hl : t.length ≤ 100000) (hs : s.size ≤ 9223372036854775801) : Ev (fun r => resolve_sure.f r t k n s e) (sureV t k n s e) := by
  unfold resolve_sure.f sureV
  refine ev_ite (fun h => ?_) (fun h => ev_ite (fun h2 => ?_) (fun h2 => ?_))
  · rw [if_pos h]
    refine ev_bind (edge_ev t s e ht hl hs) (ev_ite (fun h2 => ?_) (fun h2 => ?_))
    · rw [if_pos h2]
      exact ev_some
    · rw [if_neg h2]
      exact ev_bind (nth_ev t s 1 ht hl (by omega)) ev_some
  · rw [if_neg h, if_pos h2]
    exact ev_bind (nth_ev t s n ht hl (by omega)) ev_some
  · rw [if_neg h, if_neg h2]
    exact ev_some
def isSure (k : Int) : Bool := decide (k = 2 ∨ k = 3)
theorem sure_is (t : List (List ByteArray)) (k n : Int) (s : ByteArray) (e : Bool) : (sureV t k n s e).2 = isSure k := by
  unfold sureV isSure
  by_cases h3 : k = 3
  · rw [if_pos h3, decide_eq_true (Or.inr h3)]
    split <;> rfl
  · rw [if_neg h3]
    by_cases h2 : k = 2
    · rw [if_pos h2, decide_eq_true (Or.inl h2)]
    · rw [if_neg h2, decide_eq_false (by omega)]
def farV (t : List (List ByteArray)) (a k n : Int) (s : ByteArray) (w : Int) : Int :=
  if k = 4 then (if s.toList = ([] : List UInt8) then wrap64 (a + wrap64 (w * n)) else alongV t s a (wrap64 (w * n))) else wrap64 (a + w)
theorem far_ev (t : List (List ByteArray)) (a k n : Int) (s : ByteArray) (w : Int) (ht : Small t) (hl : t.length ≤ 100000) (hs : s.size ≤ 9223372036854775801) : Ev (fun r => resolve_far.f r t a k n s w) (farV t a k n s w) := by
  unfold resolve_far.f farV
  refine ev_ite (fun h => ?_) (fun h => ?_)
  · rw [if_pos h]
    refine ev_ite (fun h2 => ?_) (fun h2 => ?_)
    · rw [if_pos h2]
      exact ev_some
    · rw [if_neg h2]
      exact ev_bind_some (along_ev t s a _ ht hl (by omega))
  · rw [if_neg h]
    exact ev_some
/-! ### Span -/
def manyV (k1 n1 : Int) (s1 : ByteArray) (k2 n2 : Int) (s2 : ByteArray) : Int :=
  if k1 = 4 ∧ s1.toList = ([] : List UInt8) then n1 else if k2 = 4 ∧ s2.toList = ([] : List UInt8) then n2 else 1
def pairV (p : Int × Int) : Bool × Int × Int × Int × Int := (false, p.1, p.2, 0, 0)
def coreV (t : List (List ByteArray)) (k1 n1 : Int) (s1 : ByteArray) (k2 n2 : Int) (s2 : ByteArray) : Bool × Int × Int × Int × Int :=
  let a := (sureV t k1 n1 s1 false).1
  let b := (sureV t k2 n2 s2 true).1
  if isSure k1 = true then
    (if isSure k2 = true then (if a > b then pairV (clampV b a) else if a = b then pairV (clampV a (wrap64 (b + 1))) else pairV (clampV a b))
    else pairV (clampV a (farV t a k2 n2 s2 1)))
  else (if isSure k2 = true then pairV (clampV (farV t b k1 n1 s1 (-1)) b) else (true, 0, 0, manyV k1 n1 s1 k2 n2 s2, 0))
def spanV (t : List (List ByteArray)) (k1 n1 : Int) (s1 : ByteArray) (k2 n2 : Int) (s2 : ByteArray) : Bool × Int × Int × Int × Int :=
  if t.length = 0 ∨ t.length > 10001 ∨ goodL k1 n1 s1 = false ∨ goodL k2 n2 s2 = false then (false, 0, 0, 0, 2)
  else if k1 = 4 ∧ k2 = 4 then coreV t k1 n1 s1 1 0 (⟨#[]⟩ : ByteArray) else coreV t k1 n1 s1 k2 n2 s2

theorem many_loop (k1 n1 : Int) (s1 : ByteArray) (k2 n2 : Int) (s2 : ByteArray) : Ev (fun r => resolve_Span.l0 r 1 0 k1 n1 s1 k2 n2 s2) (true, 0, 0, manyV k1 n1 s1 k2 n2 s2, 0) := by
  have h2 : Ev (fun r => resolve_Span.l0 r 1 2 k1 n1 s1 k2 n2 s2) (true, 0, 0, 1, 0) := by
    refine ev_step ?_
    simp only [resolve_Span.l0]
    exact ev_neg (by decide) ev_some
  have w1 : wrap64 (0 + 1) = 1 := by decide +kernel
  have w2 : wrap64 (1 + 1) = 2 := by decide +kernel
  have h1 : Ev (fun r => resolve_Span.l0 r 1 1 k1 n1 s1 k2 n2 s2) (true, 0, 0, (if k2 = 4 ∧ s2.toList = ([] : List UInt8) then n2 else 1), 0) := by
    refine ev_step ?_
    simp only [resolve_Span.l0]
    rw [w2]
    refine ev_pos (by decide) (ev_neg (by decide) (ev_pos trivial (ev_ite (fun h => ev_ite (fun h3 => ?_) (fun h3 => ?_)) (fun h => ?_))))
    · rw [if_pos ⟨h, h3⟩]
      exact ev_some
    · rw [if_neg (fun q => h3 q.2)]
      exact h2
    · rw [if_neg (fun q => h q.1)]
      exact h2
  refine ev_step ?_
  simp only [resolve_Span.l0]
  unfold manyV
  rw [w1]
  refine ev_pos (by decide) (ev_pos trivial (ev_ite (fun h => ev_ite (fun h3 => ?_) (fun h3 => ?_)) (fun h => ?_)))
  · rw [if_pos ⟨h, h3⟩]
    exact ev_some
  · rw [if_neg (fun q => h3 q.2)]
    exact h1
  · rw [if_neg (fun q => h q.1)]
    exact h1
section
variable (t : List (List ByteArray)) (k1 n1 : Int) (s1 : ByteArray) (k2 n2 : Int) (s2 : ByteArray) (h1 : s1.size ≤ 140737488351232) (h2 : s2.size ≤ 140737488351232)
theorem span_core (ht : Small t) (hl : t.length ≤ 100000) (h1 : s1.size ≤ 140737488351232) (h2 : s2.size ≤ 140737488351232) : Ev (fun r => resolve_Span.j2 r t k1 n1 s1 k2 n2 s2) (coreV t k1 n1 s1 k2 n2 s2) := by
  refine ev_step ?_
  simp only [resolve_Span.j2]
  refine ev_bind (sure_ev t k1 n1 s1 false ht hl (by omega)) (ev_bind (sure_ev t k2 n2 s2 true ht hl (by omega)) ?_)
  have e1 := sure_is t k1 n1 s1 false
  have e2 := sure_is t k2 n2 s2 true
  rw [e1, e2]
  unfold coreV
  refine ev_ite (fun c1 => ?_) (fun c1 => ?_)
  · rw [c1, if_pos rfl]
    refine ev_step ?_
    simp only [resolve_Span.j3]
    refine ev_neg (by decide) (ev_ite (fun c2 => ?_) (fun c2 => ?_))
    · rw [if_pos c2]
      refine ev_pos trivial (ev_ite (fun c3 => ?_) (fun c3 => ev_ite (fun c4 => ?_) (fun c4 => ?_)))
      · rw [if_pos c3]
        exact ev_bindc (clamp_f _ _) ev_some
      · rw [if_neg c3, if_pos c4]
        exact ev_bindc (clamp_f _ _) ev_some
      · rw [if_neg c3, if_neg c4]
        exact ev_bindc (clamp_f _ _) ev_some
    · rw [if_neg c2]
      exact ev_bind (far_ev t _ k2 n2 s2 1 ht hl (by omega)) (ev_bindc (clamp_f _ _) ev_some)
  · rw [if_neg c1]
    have c1 : isSure k1 = false := Bool.eq_false_iff.2 c1
    rw [c1]
    refine ev_step ?_
    simp only [resolve_Span.j3]
    refine ev_ite (fun c2 => ?_) (fun c2 => ?_)
    · have c2 : isSure k2 = false := by simpa using c2
      rw [c2, if_neg (by decide)]
      exact many_loop k1 n1 s1 k2 n2 s2
    · have c2 : isSure k2 = true := by simpa using c2
      rw [c2, if_pos rfl]
      exact ev_pos rfl (ev_neg (by decide) (ev_bind (far_ev t _ k1 n1 s1 (-1) ht hl (by omega)) (ev_bindc (clamp_f _ _) ev_some)))
theorem span_ev (ht : Small t) (hl : t.length ≤ 100000) (h1 : s1.size ≤ 140737488351232) (h2 : s2.size ≤ 140737488351232) : Ev (fun r => resolve_Span.f r t k1 n1 s1 k2 n2 s2) (spanV t k1 n1 s1 k2 n2 s2) := by
  have hj : ∀ b : Bool, b = decide (t.length = 0 ∨ t.length > 10001 ∨ goodL k1 n1 s1 = false ∨ goodL k2 n2 s2 = false) → Ev (fun r => resolve_Span.j0 r t b k1 n1 s1 k2 n2 s2) (spanV t k1 n1 s1 k2 n2 s2) := by
    intro b hb
    subst hb
    refine ev_step ?_
    simp only [resolve_Span.j0]
    unfold spanV
    have hj1 : ∀ b : Bool, b = decide (k1 = 4 ∧ k2 = 4) → Ev (fun r => resolve_Span.j1 r t b k1 n1 s1 k2 n2 s2) (if k1 = 4 ∧ k2 = 4 then coreV t k1 n1 s1 1 0 (⟨#[]⟩ : ByteArray) else coreV t k1 n1 s1 k2 n2 s2) := by
      intro b hb
      subst hb
      refine ev_step ?_
      simp only [resolve_Span.j1]
      refine ev_ite (fun h => ?_) (fun h => ?_)
      · rw [if_pos (of_decide_eq_true h)]
        exact span_core t k1 n1 s1 1 0 _ ht hl h1 (by decide)
      · rw [if_neg (fun q => h (decide_eq_true q))]
        exact span_core t k1 n1 s1 k2 n2 s2 ht hl h1 h2
    refine ev_ite (fun h => ?_) (fun h => ?_)
    · rw [if_pos (of_decide_eq_true h)]
      exact ev_some
    · rw [if_neg (fun q => h (decide_eq_true q))]
      refine ev_ite (fun h3 => hj1 _ ?_) (fun h3 => hj1 _ ?_)
      · by_cases h4 : k2 = 4
        · rw [decide_eq_true ⟨h3, h4⟩, h4]
          rfl
        · rw [decide_eq_false (fun q => h4 q.2)]
          simpa using h4
      · rw [decide_eq_false (fun q => h3 q.1)]
  unfold resolve_Span.f
  refine ev_ite (fun c => hj _ ?_) (fun c => ev_ite (fun c2 => hj _ ?_) (fun c2 => ev_bind (good_ev k1 n1 s1 h1) (ev_ite (fun c3 => ev_bind (good_ev k2 n2 s2 h2) (hj _ ?_)) (fun c3 => hj _ ?_))))
  · exact (decide_eq_true (.inl (by omega))).symm
  · exact (decide_eq_true (.inr (.inl (by omega)))).symm
  · cases hg : goodL k2 n2 s2
    · simp
    · refine (decide_eq_false ?_).symm
      rintro (q | q | q | q)
      · omega
      · omega
      · rw [c3] at q; cases q
      · cases q
  · exact (decide_eq_true (.inr (.inr (.inl (by simpa using c3))))).symm
end

/-! ### the chapter's examples -/
theorem lives_ev : Ev (fun k => parterrelaw18_lives.f k) true := by
  have hs : Small [([] : List ByteArray), [], []] := by decide +kernel
  have hn : ∀ n : Int, parterrelaw18_num.f n = some (2, n, (⟨#[]⟩ : ByteArray)) := fun _ => rfl
  unfold parterrelaw18_lives.f
  refine ev_pos (by decide) (ev_let (ev_bindc (hn _) (ev_bindc (hn _) ?_)))
  refine ev_bind (span_ev _ 2 3 _ 2 1 _ hs (by decide) (by decide) (by decide)) ?_
  refine ev_bind (span_ev _ 4 2 _ 1 0 _ hs (by decide) (by decide) (by decide)) (ev_bindc (hn _) ?_)
  refine ev_bind (span_ev _ 2 (-1) _ 1 0 _ hs (by decide) (by decide) (by decide)) ?_
  exact ev_pos (by decide +kernel) (ev_pos (by decide +kernel) (ev_pos (by decide +kernel) (ev_pos (by decide +kernel) (ev_pos (by decide +kernel) (ev_eq (by decide +kernel))))))
end Go.Proofs.Ytaalmkkekbhpnaa.PureRs

