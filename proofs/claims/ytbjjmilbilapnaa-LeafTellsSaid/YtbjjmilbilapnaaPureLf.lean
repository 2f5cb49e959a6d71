/- What stands in a leaf, as plain lists: what the printed functions of the packages leaf, box and their references answer. Conditions: content of few words. -/
import Derived.Test.YtbjjmilbilapnaaPLfx3
import Derived.Test.YtbjjmilbilapnaaPLfx6
import Derived.Test.YtbjjmilbilapnaaPLfx7
import Derived.Test.YtbjjmilbilapnaaPLfx8
import Derived.Test.YtbjjmilbilapnaaPLfx9
import Derived.Test.YtbjjmilbilapnaaPLfx10
import Derived.Test.YtbjjmilbilapnaaEv
set_option linter.unusedVariables false
set_option linter.unusedSimpArgs false
namespace Go.Proofs.Ytbjjmilbilapnaa.PureLf
open Go.RowKit Go.Proofs.YtbjjmilbilapnaaW.PrintWords Go.Proofs.YtbjjmilbilapnaaW.PrintMore Go.Proofs.Ytbjjmilbilapnaa.Evs Go.Proofs.Ytbjjmilbilapnaa.Opn Go.Proofs.Ytbjjmilbilapnaa.PLf

abbrev Bx := S59
abbrev Wd := List Bx
abbrev Ln := S54
def wd (w : List Wd) (i : Nat) : Wd := w.getD i []
def bx (l : Wd) (j : Nat) : Bx := l.getD j z59
def wW (l : Wd) : Int := (l.map (·.f0)).sum
def wS (l : Wd) : Int := (l.map (·.f1)).sum
def wH (l : Wd) : Int := l.foldl (fun n b => mx n b.f1) 0
def tot (f : Wd → Int) (w : List Wd) : Int := (w.map f).sum
def side (n : Int) : Prop := 0 ≤ n ∧ n ≤ 68719476736
instance (n : Int) : Decidable (side n) := by unfold side; infer_instance
def okBox (b : Bx) : Bool := decide (side b.f0) && decide (side b.f1)

theorem rd_wd (w : List Wd) (i : Nat) : rd_L2 w (i : Int) = wd w i := by simp [rd_L2, wd]
theorem rd_bx (l : Wd) (j : Nat) : rd_T59 l (j : Int) = bx l j := by simp [rd_T59, bx]
theorem drop_wd {w : List Wd} {i : Nat} (h : i < w.length) : w.drop i = wd w i :: w.drop (i + 1) := by
  rw [List.drop_eq_getElem_cons h]
  congr 1
  simp [wd, List.getD_eq_getElem?_getD, List.getElem?_eq_getElem h]
theorem drop_bx {l : Wd} {j : Nat} (h : j < l.length) : l.drop j = bx l j :: l.drop (j + 1) := by
  rw [List.drop_eq_getElem_cons h]
  congr 1
  simp [bx, List.getD_eq_getElem?_getD, List.getElem?_eq_getElem h]
theorem wd_mem {w : List Wd} {i : Nat} (h : i < w.length) : wd w i ∈ w := by
  unfold wd
  rw [List.getD_eq_getElem?_getD, List.getElem?_eq_getElem h]
  exact List.getElem_mem h
theorem bx_mem {l : Wd} {j : Nat} (h : j < l.length) : bx l j ∈ l := by
  unfold bx
  rw [List.getD_eq_getElem?_getD, List.getElem?_eq_getElem h]
  exact List.getElem_mem h

/-! ### light -/
theorem light_loop (t : List Wd) (ht : t.length ≤ 4611686018427387904) : ∀ d j : Nat, ∀ n : Int, t.length - j = d → j ≤ t.length → 0 ≤ n → n ≤ 600 →
    ∃ b, Ev (fun k => parterrelaw09_Light.l0 k n t (t.length : Int) (j : Int)) b ∧ (b = true → n + ((t.length : Int) - j) ≤ 600 ∧ ∀ l ∈ t.drop j, l.length ≤ 600) := by
  intro d
  induction d with
  | zero =>
    intro j n hd hj h0 h6
    have : j = t.length := by omega
    subst this
    refine ⟨true, ?_, ?_⟩
    · refine ev_step ?_
      simp only [parterrelaw09_Light.l0]
      exact ev_neg (by omega) ev_some
    · intro _
      exact ⟨by omega, by simp⟩
  | succ d ih =>
    intro j n hd hj h0 h6
    have hlt : j < t.length := by omega
    have hw1 : wrap64 (n + (1 + (mn ((wd t j).length : Int) 1000))) = n + (1 + (mn ((wd t j).length : Int) 1000)) := w64 (by rw [mn_eq]; omega) (by rw [mn_eq]; omega)
    have hw2 : wrap64 ((j : Int) + 1) = ((j + 1 : Nat) : Int) := w64 (by omega) (by omega)
    by_cases hb : n + (1 + (mn ((wd t j).length : Int) 1000)) > 600
    · refine ⟨false, ?_, by simp⟩
      refine ev_step ?_
      simp only [parterrelaw09_Light.l0, rd_wd, hw1, hw2]
      exact ev_pos (by omega) (ev_pos (by omega) (ev_pos (by omega) (ev_pos hb ev_some)))
    · obtain ⟨b, h1, h2⟩ := ih (j + 1) (n + (1 + (mn ((wd t j).length : Int) 1000))) (by omega) (by omega) (by rw [mn_eq]; omega) (by omega)
      refine ⟨b, ?_, fun h => ?_⟩
      · refine ev_step ?_
        simp only [parterrelaw09_Light.l0, rd_wd, hw1, hw2]
        exact ev_pos (by omega) (ev_pos (by omega) (ev_pos (by omega) (ev_neg hb h1)))
      · obtain ⟨h3, h4⟩ := h2 h
        rw [mn_eq] at hb h3
        refine ⟨by omega, ?_⟩
        rw [drop_wd hlt]
        intro l hl
        rcases List.mem_cons.1 hl with rfl | hl
        · omega
        · exact h4 l hl
/-- Content that is looked at. -/
def Light (t : List Wd) : Prop := t.length ≤ 600 ∧ ∀ l ∈ t, l.length ≤ 600
theorem light_ev (t : List Wd) (ht : t.length ≤ 4611686018427387904) : ∃ b, Ev (fun k => parterrelaw09_Light.f k t) b ∧ (b = true → Light t) := by
  obtain ⟨b, h1, h2⟩ := light_loop t ht _ 0 0 rfl (Nat.zero_le _) (by omega) (by omega)
  exact ⟨b, h1, fun h => ⟨by have := (h2 h).1; omega, by simpa using (h2 h).2⟩⟩

/-! ### sums -/
theorem sum_nonneg : ∀ {l : List Int}, (∀ x ∈ l, 0 ≤ x) → 0 ≤ l.sum
  | [], _ => by simp
  | x :: r, h => by
    have h1 := h x (by simp)
    have h2 := sum_nonneg (l := r) (fun y hy => h y (by simp [hy]))
    simp only [List.sum_cons]
    omega
theorem sum_le : ∀ {l : List Int} {B : Int}, (∀ x ∈ l, x ≤ B) → 0 ≤ B → l.sum ≤ l.length * B
  | [], _, _, _ => by simp
  | x :: r, B, h, h0 => by
    have h1 := h x (by simp)
    have h2 := sum_le (l := r) (B := B) (fun y hy => h y (by simp [hy])) h0
    simp only [List.sum_cons, List.length_cons]
    have : ((r.length + 1 : Nat) : Int) * B = r.length * B + B := by rw [Int.natCast_add, Int.add_mul]; omega
    omega
def OkW (l : Wd) : Prop := ∀ b ∈ l, side b.f0 ∧ side b.f1
theorem OkW.tail {b : Bx} {l : Wd} (h : OkW (b :: l)) : OkW l := fun x hx => h x (by simp [hx])
theorem OkW.drop {l : Wd} (h : OkW l) (j : Nat) : OkW (l.drop j) := fun x hx => h x (List.mem_of_mem_drop hx)
theorem okW_iff (l : Wd) : l.all okBox = true ↔ OkW l := by
  simp [OkW, okBox]
theorem wW_nonneg {l : Wd} (h : OkW l) : 0 ≤ wW l := sum_nonneg (fun x hx => by obtain ⟨b, hb, rfl⟩ := List.mem_map.1 hx; exact (h b hb).1.1)
theorem wS_nonneg {l : Wd} (h : OkW l) : 0 ≤ wS l := sum_nonneg (fun x hx => by obtain ⟨b, hb, rfl⟩ := List.mem_map.1 hx; exact (h b hb).2.1)
theorem wW_le {l : Wd} (h : OkW l) : wW l ≤ l.length * 68719476736 := by
  have := sum_le (l := l.map (·.f0)) (B := 68719476736) (fun x hx => by obtain ⟨b, hb, rfl⟩ := List.mem_map.1 hx; exact (h b hb).1.2) (by omega)
  rwa [List.length_map] at this
theorem wS_le {l : Wd} (h : OkW l) : wS l ≤ l.length * 68719476736 := by
  have := sum_le (l := l.map (·.f1)) (B := 68719476736) (fun x hx => by obtain ⟨b, hb, rfl⟩ := List.mem_map.1 hx; exact (h b hb).2.2) (by omega)
  rwa [List.length_map] at this
theorem wW_cons (b : Bx) (l : Wd) : wW (b :: l) = b.f0 + wW l := by simp [wW]
theorem wS_cons (b : Bx) (l : Wd) : wS (b :: l) = b.f1 + wS l := by simp [wS]

/-! ### whether content may be -/
/-- So many boxes may still come. -/
def wg : Int → List Wd → Bool
  | _, [] => true
  | n, l :: r => !(l.length == 0) && (decide ((l.length : Int) ≤ n) && (l.all okBox && wg (n - l.length) r))

theorem is_ev (n : Int) : fixed_Is.f n = some (decide (-68719476736 ≤ n ∧ n ≤ 68719476736)) := by
  unfold fixed_Is.f
  by_cases h : n ≥ -68719476736
  · rw [if_pos h]
    congr 1
    rw [decide_eq_decide]
    omega
  · rw [if_neg h]
    congr 1
    exact (decide_eq_false (by omega)).symm
theorem side_ev (n : Int) : box_WordsGood_1.f n = some (decide (side n)) := by
  unfold box_WordsGood_1.f
  rw [is_ev]
  by_cases h : n ≥ 0
  · rw [if_pos h]
    simp only [Option.bind_some]
    congr 1
    rw [Bool.eq_iff_iff]
    simp only [decide_eq_true_iff]
    unfold side
    omega
  · rw [if_neg h]
    congr 1
    refine (decide_eq_false ?_).symm
    unfold side
    omega

theorem good_l1 (w : List Wd) (l : Wd) (n : Int) (i : Nat) (r : Bool) (hl : l.length ≤ 4611686018427387904) (hi : i < 4611686018427387904) (hk : Ev (fun k => box_WordsGood.l0 k n w (w.length : Int) ((i + 1 : Nat) : Int)) r) :
    ∀ d j : Nat, l.length - j = d → j ≤ l.length → Ev (fun k => box_WordsGood.l1 k n w (w.length : Int) (i : Int) l (l.length : Int) (j : Int)) ((l.drop j).all okBox && r) := by
  intro d
  induction d with
  | zero =>
    intro j hd hj
    have : j = l.length := by omega
    subst this
    refine ev_step ?_
    simp only [box_WordsGood.l1]
    rw [w64 (x := (i : Int) + 1) (by omega) (by omega)]
    refine ev_neg (by omega) (ev_cast hk ?_)
    simp
  | succ d ih =>
    intro j hd hj
    have hlt : j < l.length := by omega
    refine ev_step ?_
    simp only [box_WordsGood.l1, rd_bx]
    rw [w64 (x := (j : Int) + 1) (by omega) (by omega), drop_bx hlt]
    refine ev_pos (by omega) (ev_pos (by omega) (ev_pos (by omega) (ev_bindc (side_ev _) (ev_ite (fun h => ev_bindc (side_ev _) (ev_ite (fun h2 => ?_) (fun h2 => ev_eq ?_))) (fun h => ev_eq ?_)))))
    · refine ev_cast (ih (j + 1) (by omega) (by omega)) ?_
      simp only [List.all_cons, okBox]
      rw [h, h2]
      simp
    · have h2' : decide (side (bx l j).f1) = false := by simpa using h2
      simp only [List.all_cons, okBox]
      rw [h2']
      simp
    · have h' : decide (side (bx l j).f0) = false := by simpa using h
      simp only [List.all_cons, okBox]
      rw [h']
      simp
theorem good_l0 (w : List Wd) (hw : Light w) : ∀ d i : Nat, ∀ n : Int, w.length - i = d → i ≤ w.length → 0 ≤ n → n ≤ 256 →
    Ev (fun k => box_WordsGood.l0 k n w (w.length : Int) (i : Int)) (wg n (w.drop i)) := by
  have h6 := hw.1
  intro d
  induction d with
  | zero =>
    intro i n hd hi h0 h2
    have : i = w.length := by omega
    subst this
    refine ev_step ?_
    simp only [box_WordsGood.l0]
    refine ev_neg (by omega) (ev_eq ?_)
    rw [List.drop_length]
    rfl
  | succ d ih =>
    intro i n hd hi h0 h2
    have hlt : i < w.length := by omega
    have hll := hw.2 _ (wd_mem hlt)
    refine ev_step ?_
    simp only [box_WordsGood.l0, rd_wd]
    rw [drop_wd hlt]
    have hj : ∀ b : Bool, (b = true ↔ (wd w i).length = 0 ∨ ((wd w i).length : Int) > n) → Ev (fun k => box_WordsGood.j1 k n (wd w i) w (w.length : Int) (i : Int) b) (wg n (wd w i :: w.drop (i + 1))) := by
      intro b hb
      refine ev_step ?_
      simp only [box_WordsGood.j1]
      refine ev_ite (fun h => ev_eq ?_) (fun h => ?_)
      · rcases hb.1 h with h | h
        · simp [wg, h]
        · have : decide (((wd w i).length : Int) ≤ n) = false := decide_eq_false (by omega)
          simp [wg, this]
      · have hn : ¬ ((wd w i).length = 0 ∨ ((wd w i).length : Int) > n) := fun h3 => h (hb.2 h3)
        have h4 : decide (((wd w i).length : Int) ≤ n) = true := decide_eq_true (by omega)
        have h5 : ((wd w i).length == 0) = false := beq_eq_false_iff_ne.mpr (by omega)
        simp only [wg, h4, h5, Bool.not_false, Bool.true_and]
        rw [w64 (x := n - ((wd w i).length : Int)) (by omega) (by omega)]
        have := good_l1 w (wd w i) (n - ((wd w i).length : Int)) i _ (by omega) (by omega) (ih (i + 1) (n - (wd w i).length) (by omega) (by omega) (by omega) (by omega)) _ 0 rfl (Nat.zero_le _)
        exact this
    refine ev_pos (by omega) (ev_pos (by omega) (ev_pos (by omega) (ev_ite (fun h => hj true ⟨fun _ => .inl (by omega), fun _ => rfl⟩) (fun h => hj _ ?_))))
    rw [decide_eq_true_iff]
    omega
theorem good_ev (w : List Wd) (hw : Light w) : Ev (fun k => box_WordsGood.f k w) (wg 256 w) := by
  have := good_l0 w hw _ 0 256 rfl (Nat.zero_le _) (by omega) (by omega)
  exact this

/-! ### what follows of content that may be -/
theorem wg_ok : ∀ {w : List Wd} {n : Int}, wg n w = true → (∀ l ∈ w, l ≠ [] ∧ OkW l) ∧ tot (fun l => (l.length : Int)) w ≤ n ∨ w = []
  | [], _, _ => .inr rfl
  | l :: r, n, h => by
    simp only [wg, Bool.and_eq_true, Bool.not_eq_true', beq_eq_false_iff_ne, decide_eq_true_eq] at h
    obtain ⟨h1, h2, h3, h4⟩ := h
    refine .inl ⟨fun x hx => ?_, ?_⟩
    · rcases List.mem_cons.1 hx with rfl | hx
      · exact ⟨fun e => h1 (by rw [e]; rfl), (okW_iff _).1 h3⟩
      · rcases wg_ok h4 with h5 | h5
        · exact h5.1 x hx
        · subst h5
          simp at hx
    · rcases wg_ok h4 with h5 | h5
      · have := h5.2
        simp only [tot, List.map_cons, List.sum_cons] at this ⊢
        omega
      · subst h5
        simp [tot]
        omega
/-- Content that may be. -/
structure Fine (w : List Wd) : Prop where
  ne : ∀ l ∈ w, l ≠ []
  ok : ∀ l ∈ w, OkW l
  few : tot (fun l => (l.length : Int)) w ≤ 256
theorem fine_of {w : List Wd} (h : wg 256 w = true) : Fine w := by
  rcases wg_ok h with h | rfl
  · exact ⟨fun l hl => (h.1 l hl).1, fun l hl => (h.1 l hl).2, h.2⟩
  · exact ⟨by simp, by simp, by simp [tot]⟩
theorem tot_cons (f : Wd → Int) (l : Wd) (w : List Wd) : tot f (l :: w) = f l + tot f w := by simp [tot]
theorem tot_nonneg {f : Wd → Int} {w : List Wd} (h : ∀ l ∈ w, 0 ≤ f l) : 0 ≤ tot f w := sum_nonneg (fun x hx => by obtain ⟨b, hb, rfl⟩ := List.mem_map.1 hx; exact h b hb)
theorem tot_le {f g : Wd → Int} : ∀ {w : List Wd}, (∀ l ∈ w, f l ≤ g l) → tot f w ≤ tot g w
  | [], _ => by simp [tot]
  | l :: r, h => by
    rw [tot_cons, tot_cons]
    have h1 := h l (by simp)
    have h2 := tot_le (w := r) (fun x hx => h x (by simp [hx]))
    omega
theorem tot_mul (c : Int) : ∀ (w : List Wd), tot (fun l => (l.length : Int) * c) w = tot (fun l => (l.length : Int)) w * c
  | [] => by simp [tot]
  | l :: r => by rw [tot_cons, tot_cons, tot_mul c r, Int.add_mul]
theorem Fine.totW {w : List Wd} (h : Fine w) : 0 ≤ tot wW w ∧ tot wW w ≤ 17592186044416 := by
  refine ⟨tot_nonneg (fun l hl => wW_nonneg (h.ok l hl)), ?_⟩
  have h1 := tot_le (w := w) (f := wW) (g := fun l => (l.length : Int) * 68719476736) (fun l hl => wW_le (h.ok l hl))
  rw [tot_mul] at h1
  have := h.few
  omega
theorem Fine.totS {w : List Wd} (h : Fine w) : 0 ≤ tot wS w ∧ tot wS w ≤ 17592186044416 := by
  refine ⟨tot_nonneg (fun l hl => wS_nonneg (h.ok l hl)), ?_⟩
  have h1 := tot_le (w := w) (f := wS) (g := fun l => (l.length : Int) * 68719476736) (fun l hl => wS_le (h.ok l hl))
  rw [tot_mul] at h1
  have := h.few
  omega

/-! ### the program: look -/
theorem look_l1 (w : List Wd) (l : Wd) (i : Nat) (r : Int × Int) (hl : l.length ≤ 600) (hi : i ≤ 600) (ho : OkW l) : ∀ d j : Nat, ∀ a b : Int, l.length - j = d → j ≤ l.length → 0 ≤ a → 0 ≤ b → a + wW (l.drop j) ≤ 17592186044416 → b + wS (l.drop j) ≤ 17592186044416 →
    Ev (fun k => leaf_look.l0 k (a + wW (l.drop j)) (b + wS (l.drop j)) w (w.length : Int) ((i + 1 : Nat) : Int)) r → Ev (fun k => leaf_look.l1 k a b w (w.length : Int) (i : Int) l (l.length : Int) (j : Int)) r := by
  intro d
  induction d with
  | zero =>
    intro j a b hd hj ha hb h1 h2 hk
    have : j = l.length := by omega
    subst this
    rw [List.drop_length] at hk
    refine ev_step ?_
    simp only [leaf_look.l1]
    rw [w64 (x := (i : Int) + 1) (by omega) (by omega)]
    refine ev_neg (by omega) ?_
    simpa [wW, wS] using hk
  | succ d ih =>
    intro j a b hd hj ha hb h1 h2 hk
    have hlt : j < l.length := by omega
    have hb1 := ho _ (bx_mem hlt)
    have hn1 := wW_nonneg (ho.drop (j + 1))
    have hn2 := wS_nonneg (ho.drop (j + 1))
    rw [drop_bx hlt, wW_cons] at h1
    rw [drop_bx hlt, wS_cons] at h2
    rw [drop_bx hlt, wW_cons, wS_cons, ← Int.add_assoc, ← Int.add_assoc] at hk
    unfold side at hb1
    refine ev_step ?_
    simp only [leaf_look.l1, rd_bx]
    rw [w64 (x := (j : Int) + 1) (by omega) (by omega), w64 (x := a + (bx l j).f0) (by omega) (by omega), w64 (x := b + (bx l j).f1) (by omega) (by omega)]
    exact ev_pos (by omega) (ev_pos (by omega) (ev_pos (by omega) (ih (j + 1) _ _ (by omega) (by omega) (by omega) (by omega) (by omega) (by omega) hk)))
/-- What 'look' tells: the width, or what is wrong. -/
def lookV (w : List Wd) : Int × Int := if wg 256 w = true then (if tot wW w ≤ 68719476736 ∧ tot wS w ≤ 68719476736 then (tot wW w, 0) else (0, 10)) else (0, 2)
theorem look_l0 (w : List Wd) (hw : Light w) (hf : Fine w) : ∀ d i : Nat, ∀ a b : Int, w.length - i = d → i ≤ w.length → 0 ≤ a → 0 ≤ b → a + tot wW (w.drop i) = tot wW w → b + tot wS (w.drop i) = tot wS w →
    Ev (fun k => leaf_look.l0 k a b w (w.length : Int) (i : Int)) (if tot wW w ≤ 68719476736 ∧ tot wS w ≤ 68719476736 then (tot wW w, 0) else (0, 10)) := by
  have h6 := hw.1
  intro d
  induction d with
  | zero =>
    intro i a b hd hi ha hb h1 h2
    have : i = w.length := by omega
    subst this
    rw [List.drop_length] at h1 h2
    simp only [tot, List.map_nil, List.sum_nil, Int.add_zero] at h1 h2
    subst h1 h2
    refine ev_step ?_
    simp only [leaf_look.l0]
    refine ev_neg (by omega) (ev_bindc (is_ev _) (ev_ite (fun h => ev_bindc (is_ev _) (ev_ite (fun h' => ev_eq ?_) (fun h' => ev_eq ?_))) (fun h => ev_eq ?_)))
    · rw [decide_eq_true_iff] at h h'
      exact (if_pos ⟨h.2, h'.2⟩).symm
    · rw [decide_eq_true_iff] at h'
      exact (if_neg (fun h3 => h' ⟨by unfold tot at *; omega, h3.2⟩)).symm
    · rw [decide_eq_true_iff] at h
      exact (if_neg (fun h3 => h ⟨by unfold tot at *; omega, h3.1⟩)).symm
  | succ d ih =>
    intro i a b hd hi ha hb h1 h2
    have hlt : i < w.length := by omega
    have hll := hw.2 _ (wd_mem hlt)
    have ho := hf.ok _ (wd_mem hlt)
    have hW := hf.totW
    have hS := hf.totS
    have hr1 : 0 ≤ tot wW (w.drop (i + 1)) := tot_nonneg (fun l hl => wW_nonneg (hf.ok l (List.mem_of_mem_drop hl)))
    have hr2 : 0 ≤ tot wS (w.drop (i + 1)) := tot_nonneg (fun l hl => wS_nonneg (hf.ok l (List.mem_of_mem_drop hl)))
    have hw1 := wW_nonneg ho
    have hs1 := wS_nonneg ho
    rw [drop_wd hlt, tot_cons] at h1 h2
    refine ev_step ?_
    simp only [leaf_look.l0, rd_wd]
    refine ev_pos (by omega) (ev_pos (by omega) (ev_pos (by omega) ?_))
    refine look_l1 w (wd w i) i _ (by omega) (by omega) ho _ 0 a b rfl (Nat.zero_le _) ha hb ?_ ?_ ?_
    · rw [List.drop_zero]; omega
    · rw [List.drop_zero]; omega
    · rw [List.drop_zero]
      exact ih (i + 1) _ _ (by omega) (by omega) (by omega) (by omega) (by omega) (by omega)
theorem look_ev (w : List Wd) (hw : Light w) : Ev (fun k => leaf_look.f k w) (lookV w) := by
  unfold leaf_look.f lookV
  refine ev_bind (good_ev w hw) (ev_ite (fun h => ?_) (fun h => ev_eq ?_))
  · rw [if_pos h]
    have := look_l0 w hw (fine_of h) _ 0 0 0 rfl (Nat.zero_le _) (by omega) (by omega) (by rw [List.drop_zero]; omega) (by rw [List.drop_zero]; omega)
    exact this
  · rw [if_neg h]
end Go.Proofs.Ytbjjmilbilapnaa.PureLf
