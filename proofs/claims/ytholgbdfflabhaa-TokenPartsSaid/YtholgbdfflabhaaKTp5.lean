/- TokenPartsSaid, part 6 of 7: contracts of the program's functions, the words that they use, and the plain laws on what they compute. Conditions: none beyond what the statements say. -/
import Derived.Test.YtholgbdfflabhaaKTp1
import Derived.Test.YtholgbdfflabhaaKTp4
import Derived.Test.YtholgbdfflabhaaKTp3
import Derived.HandedShaped
set_option linter.unusedVariables false
set_option linter.unusedSimpArgs false
section
/- The lexer as a function of the bytes that are left, third part: words, all words. Conditions: texts of at most 60000 bytes. -/
namespace Go.Proofs.Ytholgbdfflabhaa.Tkl
open Go.RowKit Go.Proofs.YtholgbdfflabhaaW.PrintWords Go.Proofs.YtholgbdfflabhaaW.PrintMore Go.Proofs.Ytholgbdfflabhaa.Evs Go.Proofs.Ytholgbdfflabhaa.Opn Go.Proofs.Ytholgbdfflabhaa.PTk Go.Proofs.Ytholgbdfflabhaa.Giv

theorem sgn_all : (List.range 256).all (fun n => (strings_IndexByte.f (⟨#[44, 47, 58, 59, 123, 125, 91, 93, 40, 41]⟩ : ByteArray) (n : Int)).isSome) = true := by decide +kernel
theorem sgn_is (c : UInt8) : strings_IndexByte.f (⟨#[44, 47, 58, 59, 123, 125, 91, 93, 40, 41]⟩ : ByteArray) (c.toNat : Int) = some (sgnV c) := some_getD (List.all_eq_true.1 sgn_all c.toNat (List.mem_range.2 c.toNat_lt))
section
variable {s : ByteArray} {p : Nat} {c : UInt8} {L R : List UInt8}
theorem put_ok {p : Nat} {a : Int} {x y : ByteArray} {m : Nat} : put p (0, a, x, y, m) = (0, a, x, y, p + m) := rfl
theorem put_err {p : Nat} {e : Int} (h : e ≠ 0) : put p (err e) = (e, 0, mkB [], mkB [], 0) := by
  unfold put err
  simp only [if_neg h]
theorem idl_ev (hs : s.size ≤ 1000000) (h : Rs s p L) : Ev (fun k => identF k s p []) ((idl L).1, p + (idl L).2) := by
  have hl := h.len
  have := id_ev hs L.length L p [] (Nat.le_refl _) h (by simp; omega)
  rwa [List.nil_append] at this
theorem ql_ev (hs : s.size ≤ 1000000) (h : Rs s p L) (e : Int) : Ev (fun k => quotE k s p [] e) ((ql e L).map fun q => (q.1, p + q.2)) := by
  have hl := h.len
  have := q_ev hs e L.length L p [] (Nat.le_refl _) h (by simp; omega)
  simpa only [List.nil_append] using this
theorem w_ev (hs : s.size ≤ 1000000) (h : Rs s p (c :: R)) : Ev (fun k => wordE k s p) (put p (wL (c :: R))) := by
  have hl := h.len
  have hscn := scn_is (L := c :: R) (by omega)
  unfold wordE
  refine ev_pos h.lt ?_
  rw [h.ext]
  refine ev_bindc hscn.1 ?_
  unfold wL
  generalize hL : c :: R = L at *
  generalize scn L = n at hscn ⊢
  refine ev_ite (fun c1 => ?_) (fun c1 => ?_)
  · rw [if_pos (show n > 0 by omega)]
    rw [show (n : Int).toNat = n by simp]
    have hr : Rs s (p + n) (L.drop n) := h.drop hscn.2
    have hx := h.sub n
    have hm : (idl (L.drop n)).2 ≤ (L.drop n).length := (idL_bd (L.drop n).length (L.drop n)).1
    rw [hx]
    unfold wNum
    generalize L.drop n = M at hr hm ⊢
    have hml := hr.len
    refine ev_pos (by omega) (ev_bindc (is_hd g_pct hr) (ev_ite (fun c2 => ?_) (fun c2 => ?_)))
    · rw [if_pos c2]
      exact ev_some
    · rw [if_neg c2]
      refine ev_bind (beg_ev hs hr) (ev_ite (fun c3 => ?_) (fun c3 => ?_))
      · rw [if_pos c3]
        refine ev_bind (idl_ev hs hr) (ev_pos (by show p + n + (idl M).2 ≤ _; omega) (ev_ite (fun c4 => ?_) (fun c4 => ?_)))
        · rw [if_pos c4, put_ok]
          exact ev_eq (by rw [Nat.add_assoc])
        · rw [if_neg c4, put_err (by decide)]
          exact ev_some
      · rw [if_neg c3]
        exact ev_some
  · rw [if_neg (show ¬ n > 0 by omega)]
    refine ev_bind (beg_ev hs h) (ev_ite (fun c3 => ?_) (fun c3 => ?_))
    · rw [if_pos c3]
      have hm : (idl L).2 ≤ L.length := (idL_bd L.length L).1
      unfold wId
      refine ev_bind (idl_ev hs h) (ev_pos (by show p + (idl L).2 ≤ _; omega) (ev_bindc (is_hd g_par (h.drop hm)) (ev_ite (fun c4 => ?_) (fun c4 => ?_))))
      · rw [if_pos c4]
        refine ev_ite (fun c5 => ?_) (fun c5 => ?_)
        · rw [if_pos c5, put_ok]
          exact ev_eq (by rw [Nat.add_assoc])
        · rw [if_neg c5, put_ok]
          exact ev_some
      · rw [if_neg c4, put_err (by decide)]
        exact ev_some
    · rw [if_neg c3]
      subst hL
      rw [h.byte]
      simp only [wRest]
      refine ev_ite (fun c4 => ?_) (fun c4 => ?_)
      · rw [if_pos c4]
        refine ev_bind (ql_ev hs h.tail _) ?_
        cases hq : ql (c.toNat : Int) R with
        | none =>
          refine ev_pos rfl ?_
          rw [put_err (by decide)]
          exact ev_some
        | some t =>
          have hb := (qL_bd _ _ _ _ hq).2.1
          simp only [List.length_cons] at hl
          refine ev_neg (by simp) (ev_bindc (a := (t.1, p + 1 + t.2)) rfl (ev_pos (by show p + 1 + t.2 ≤ _; omega) (ev_ite (fun c5 => ?_) (fun c5 => ?_))))
          · simp only [if_pos c5]
            rw [put_ok]
            exact ev_eq (by rw [Nat.add_assoc, Nat.add_comm 1])
          · simp only [if_neg c5]
            rw [put_err (by decide)]
            exact ev_some
      · rw [if_neg c4]
        refine ev_bindc (sgn_is c) (ev_ite (fun c5 => ?_) (fun c5 => ?_))
        · rw [if_pos c5, put_ok]
          have := h.sub 1
          rw [this]
          exact ev_some
        · rw [if_neg c5, put_err (by decide)]
          exact ev_some
end
theorem idl_pos {L : List UInt8} (h : begL L = true) : 1 ≤ (idl L).2 := by
  unfold begL at h
  have key : hd inn L = true ∨ (escZ L).isSome = true := by
    split at h
    · rename_i c1
      left
      obtain ⟨c, R, rfl, hc⟩ := hd_some c1
      have : c = 45 := by simpa using hc
      subst this
      exact (by decide +kernel : inn 45 = true)
    · rw [Bool.or_eq_true] at h
      rcases h with h | h
      · left
        obtain ⟨c, R, rfl, hc⟩ := hd_some h
        show inn c = true
        have h1 := (bytes c).1
        rw [hc] at h1
        have h2 := (bytes c).2.2.2.1
        unfold token_lexer_ident_1.f at h2
        rw [h1] at h2
        exact (Option.some.inj h2).symm
      · exact Or.inr h
  rcases key with h1 | h1
  · obtain ⟨c, R, rfl, hc⟩ := hd_some h1
    show 1 ≤ (idL (R.length + 1) (c :: R)).2
    simp only [idL]
    rw [if_pos h1]
    omega
  · cases L with
    | nil => cases h1
    | cons c R =>
      show 1 ≤ (idL (R.length + 1) (c :: R)).2
      simp only [idL]
      split
      · simp
      · obtain ⟨r, hr⟩ := Option.isSome_iff_exists.1 h1
        rw [hr]
        have := escZ_bd hr
        simp only []
        omega
/-- A word has a byte at least, and stands in the text; its kind is none of the end. -/
theorem wL_bd {L : List UInt8} (hL : L.length ≤ 1000000) (h0 : (wL L).1 = 0) : 1 ≤ (wL L).2.2.2.2 ∧ (wL L).2.2.2.2 ≤ L.length ∧ (wL L).2.1 ≠ 8 := by
  unfold wL at h0 ⊢
  have hs := (scn_is hL).2
  by_cases c1 : scn L > 0
  · rw [if_pos c1] at h0 ⊢
    generalize hn : scn L = n at *
    have hm := (idL_bd (L.drop n).length (L.drop n)).1
    rw [List.length_drop] at hm
    unfold wNum at h0 ⊢
    by_cases c2 : hd (fun c => c == 37) (L.drop n) = true
    · rw [if_pos c2]
      have := hd_len c2
      rw [List.length_drop] at this
      refine ⟨?_, ?_, by show (4 : Int) ≠ 8; decide⟩
      · show 1 ≤ n + 1
        omega
      · show n + 1 ≤ _
        omega
    · rw [if_neg c2] at h0 ⊢
      by_cases c3 : begL (L.drop n) = true
      · rw [if_pos c3] at h0 ⊢
        by_cases c4 : (idl (L.drop n)).1.length ≤ 64
        · rw [if_pos c4]
          refine ⟨?_, ?_, by show (5 : Int) ≠ 8; decide⟩
          · show 1 ≤ n + _
            omega
          · show n + (idL (L.drop n).length (L.drop n)).2 ≤ _
            rw [List.length_drop]
            omega
        · rw [if_neg c4] at h0
          exact absurd h0 (by decide)
      · rw [if_neg c3]
        exact ⟨by show 1 ≤ n; omega, hs, by show (3 : Int) ≠ 8; decide⟩
  · rw [if_neg c1] at h0 ⊢
    by_cases c2 : begL L = true
    · rw [if_pos c2] at h0 ⊢
      have h1 := idl_pos c2
      have hm : (idl L).2 ≤ L.length := (idL_bd L.length L).1
      unfold wId at h0 ⊢
      by_cases c3 : (idl L).1.length ≤ 64
      · rw [if_pos c3]
        by_cases c4 : hd (fun c => c == 40) (L.drop (idl L).2) = true
        · rw [if_pos c4]
          have := hd_len c4
          rw [List.length_drop] at this
          refine ⟨?_, ?_, by show (2 : Int) ≠ 8; decide⟩
          · show 1 ≤ (idl L).2 + 1
            omega
          · show (idl L).2 + 1 ≤ _
            omega
        · rw [if_neg c4]
          exact ⟨h1, hm, by show (1 : Int) ≠ 8; decide⟩
      · rw [if_neg c3] at h0
        exact absurd h0 (by decide)
    · rw [if_neg c2] at h0 ⊢
      cases L with
      | nil => exact absurd h0 (by decide)
      | cons c R =>
        unfold wRest at h0 ⊢
        by_cases c3 : (c.toNat : Int) = 34 ∨ (c.toNat : Int) = 39
        · simp only [if_pos c3] at h0 ⊢
          cases hq : ql (c.toNat : Int) R with
          | none =>
            rw [hq] at h0
            exact absurd h0 (by decide)
          | some t =>
            rw [hq] at h0
            have hb := (qL_bd _ _ _ _ hq).2.1
            simp only [] at h0 ⊢
            by_cases c4 : t.1.length ≤ 8192
            · rw [if_pos c4]
              refine ⟨?_, ?_, by show (6 : Int) ≠ 8; decide⟩
              · show 1 ≤ t.2 + 1
                omega
              · show t.2 + 1 ≤ R.length + 1
                omega
            · rw [if_neg c4] at h0
              exact absurd h0 (by decide)
        · simp only [if_neg c3] at h0 ⊢
          by_cases c4 : sgnV c ≥ 0
          · rw [if_pos c4]
            exact ⟨Nat.le_refl _, by show 1 ≤ R.length + 1; omega, by show (7 : Int) ≠ 8; decide⟩
          · rw [if_neg c4] at h0
            exact absurd h0 (by decide)
def consE (t : S29) : Except (Nat × Int) (List S29) → Except (Nat × Int) (List S29)
  | .ok l => .ok (t :: l)
  | .error e => .error e
/-- What words come of a text that begins with a word, or is empty, at a place; or the place of the first wrong one, and its error. -/
def tk0 : Nat → List UInt8 → Nat → Except (Nat × Int) (List S29)
  | 0, _, p => .error (p, 30)
  | n + 1, L, p => if L = [] then .ok [⟨8, (p : Int), mkB [], mkB []⟩] else if (wL L).1 = 0 then
      (if (skl (L.drop (wL L).2.2.2.2)).2 = true then consE ⟨(wL L).2.1, (p : Int), (wL L).2.2.1, (wL L).2.2.2.1⟩ (tk0 n ((L.drop (wL L).2.2.2.2).drop (skl (L.drop (wL L).2.2.2.2)).1) (p + (wL L).2.2.2.2 + (skl (L.drop (wL L).2.2.2.2)).1)) else .error (p + (wL L).2.2.2.2 + (skl (L.drop (wL L).2.2.2.2)).1, 30)) else .error (p, (wL L).1)
def res (out : List S29) : Except (Nat × Int) (List S29) → List S29 × Int × Int
  | .ok l => (out ++ l, 0, 0)
  | .error e => ([], (e.1 : Int), e.2)
/-- All words of a text. -/
def tkl (L : List UInt8) : Except (Nat × Int) (List S29) := if (skl L).2 = true then tk0 (L.length + 1) (L.drop (skl L).1) (skl L).1 else .error ((skl L).1, 30)
theorem tk_ev {s : ByteArray} (hs : s.size ≤ 60000) : ∀ (n : Nat) (L : List UInt8) (p : Nat) (out : List S29), L.length < n → Rs s p L → out.length + L.length ≤ 60000 → Ev (fun k => token_Tokens.l0 k s p out) (res out (tk0 n L p)) := by
  intro n
  induction n with
  | zero =>
    intro L p out hn
    omega
  | succ n ih =>
    intro L p out hn h ho
    refine ev_step ?_
    simp only [token_Tokens.l0]
    cases L with
    | nil =>
      refine ev_neg (by have := h.nil; omega) (ev_eq ?_)
      have := h.nil
      subst this
      rfl
    | cons c R =>
      have hl := h.len
      have hw := w_ev (by omega) h
      have hwb := wL_bd (L := c :: R) (by omega)
      refine ev_pos h.lt (ev_pos (by omega) (ev_bind hw ?_))
      have eq1 : tk0 (n + 1) (c :: R) p = if (wL (c :: R)).1 = 0 then
      (if (skl ((c :: R).drop (wL (c :: R)).2.2.2.2)).2 = true then consE ⟨(wL (c :: R)).2.1, (p : Int), (wL (c :: R)).2.2.1, (wL (c :: R)).2.2.2.1⟩ (tk0 n (((c :: R).drop (wL (c :: R)).2.2.2.2).drop (skl ((c :: R).drop (wL (c :: R)).2.2.2.2)).1) (p + (wL (c :: R)).2.2.2.2 + (skl ((c :: R).drop (wL (c :: R)).2.2.2.2)).1)) else .error (p + (wL (c :: R)).2.2.2.2 + (skl ((c :: R).drop (wL (c :: R)).2.2.2.2)).1, 30)) else .error (p, (wL (c :: R)).1) := by
        simp only [tk0]
        rw [if_neg (by simp)]
      rw [eq1]
      generalize c :: R = L at *
      generalize wL L = w at *
      obtain ⟨a, kd, tx, nm, m⟩ := w
      dsimp only at hwb ⊢
      refine ev_ite (fun c1 => ?_) (fun c1 => ?_)
      · have c1' : a = 0 := c1
        subst c1'
        obtain ⟨b1, b2, b3⟩ := hwb rfl
        rw [if_pos rfl]
        have hr := h.drop b2
        have hk := sk_ev (s := s) (by omega) (L.drop m).length (L.drop m) (p + m) (Nat.le_refl _) hr
        have hkb := skL_bd (L.drop m).length (L.drop m)
        have hr2 := hr.drop hkb
        have hrl := hr.len
        have hdl : (L.drop m).length = L.length - m := List.length_drop
        refine ev_pos (by show p + m ≤ _; omega) (ev_bind hk (ev_pos (by show p + m + _ ≤ _; omega) (ev_ite (fun c2 => ?_) (fun c2 => ?_))))
        · have c2' : (skl (L.drop m)).2 = true := c2
          rw [if_pos c2']
          have hi := ih ((L.drop m).drop (skl (L.drop m)).1) (p + m + (skl (L.drop m)).1) (out ++ [⟨kd, (p : Int), tx, nm⟩]) (by rw [List.length_drop]; omega) hr2 (by rw [List.length_drop, List.length_append]; simp only [List.length_cons, List.length_nil]; omega)
          refine ev_cast hi ?_
          cases tk0 n ((L.drop m).drop (skl (L.drop m)).1) (p + m + (skl (L.drop m)).1) with
          | ok l => simp [res, consE]
          | error e => rfl
        · have c2' : ¬ (skl (L.drop m)).2 = true := c2
          rw [if_neg c2']
          exact ev_some
      · have c1' : ¬ a = 0 := c1
        rw [if_neg c1']
        exact ev_some
theorem tkl_ev {l : List Int} {L : List UInt8} (hl : L.length ≤ 60000) (hn : l.length = L.length) (he : strOfNums l = mkB L) : Ev (fun k => token_Tokens.f k l) (res [] (tkl L)) := by
  have hz := mk_size L
  have hk := sk_ev (s := mkB L) (by omega) L.length L 0 (Nat.le_refl _) (Rs.whole L)
  have hkb : (skl L).1 ≤ L.length := skL_bd L.length L
  have hr := (Rs.whole L).drop hkb
  simp only [token_Tokens.f, he]
  rw [Nat.zero_add] at hk hr
  unfold tkl
  refine ev_pos (by omega) (ev_bind hk (ev_pos (by show (skl L).1 ≤ _; omega) (ev_ite (fun c => ?_) (fun c => ?_))))
  · have c' : (skl L).2 = true := c
    rw [if_pos c']
    exact tk_ev (by omega) (L.length + 1) _ _ [] (by rw [List.length_drop]; omega) hr (by rw [List.length_drop]; simp; omega)
  · have c' : ¬ (skl L).2 = true := c
    rw [if_neg c']
    exact ev_some
end Go.Proofs.Ytholgbdfflabhaa.Tkl
end
section
/- Plain facts on words: behind blanks there are none; words at another place; how many there are. Conditions: as each theorem says. -/
namespace Go.Proofs.Ytholgbdfflabhaa.Tkl
open Go.RowKit Go.Proofs.YtholgbdfflabhaaW.PrintWords Go.Proofs.YtholgbdfflabhaaW.PrintMore Go.Proofs.Ytholgbdfflabhaa.Evs Go.Proofs.Ytholgbdfflabhaa.Opn Go.Proofs.Ytholgbdfflabhaa.PTk Go.Proofs.Ytholgbdfflabhaa.Giv

theorem skl_eq (c : UInt8) (R : List UInt8) : skl (c :: R) = if blnk c = true then ((skl R).1 + 1, (skl R).2) else if isCom (c :: R) = true then
      (if Lib.index ((c :: R).drop 2) [42, 47] < 0 then (0, false) else ((Lib.index ((c :: R).drop 2) [42, 47]).toNat + 4 + (skl ((c :: R).drop ((Lib.index ((c :: R).drop 2) [42, 47]).toNat + 4))).1, (skl ((c :: R).drop ((Lib.index ((c :: R).drop 2) [42, 47]).toNat + 4))).2)) else (0, true) := by
  show skL (R.length + 1) (c :: R) = _
  simp only [skL]
  rw [skL_fuel R.length ((c :: R).drop ((Lib.index ((c :: R).drop 2) [42, 47]).toNat + 4)).length ((c :: R).drop ((Lib.index ((c :: R).drop 2) [42, 47]).toNat + 4)) (by rw [List.length_drop]; simp only [List.length_cons]; omega) (Nat.le_refl _)]
def sh (q : Nat) (t : S29) : S29 := ⟨t.f0, (q : Int) + t.f1, t.f2, t.f3⟩
def shift (q : Nat) : Except (Nat × Int) (List S29) → Except (Nat × Int) (List S29)
  | .ok l => .ok (l.map (sh q))
  | .error e => .error (q + e.1, e.2)
theorem tk0_shift (q : Nat) : ∀ (n : Nat) (L : List UInt8) (p : Nat), tk0 n L (q + p) = shift q (tk0 n L p)
  | 0, L, p => by simp [tk0, shift]
  | n + 1, L, p => by
    simp only [tk0]
    by_cases c1 : L = []
    · rw [if_pos c1, if_pos c1]
      simp [shift, sh]
    · rw [if_neg c1, if_neg c1]
      by_cases c2 : (wL L).1 = 0
      · rw [if_pos c2, if_pos c2]
        generalize wL L = w at *
        obtain ⟨a, kd, tx, nm, m⟩ := w
        simp only []
        by_cases c3 : (skl (L.drop m)).2 = true
        · rw [if_pos c3, if_pos c3]
          have := tk0_shift q n ((L.drop m).drop (skl (L.drop m)).1) (p + m + (skl (L.drop m)).1)
          rw [show q + p + m + (skl (L.drop m)).1 = q + (p + m + (skl (L.drop m)).1) by omega, this]
          cases tk0 n ((L.drop m).drop (skl (L.drop m)).1) (p + m + (skl (L.drop m)).1) with
          | ok l => simp [shift, sh, consE]
          | error e => rfl
        · rw [if_neg c3, if_neg c3]
          simp only [shift]
          rw [Nat.add_assoc q p m, Nat.add_assoc]
      · rw [if_neg c2, if_neg c2]
        simp [shift]
theorem tk0_cons (n : Nat) {L : List UInt8} (p : Nat) (h : L ≠ []) : tk0 (n + 1) L p = if (wL L).1 = 0 then
      (if (skl (L.drop (wL L).2.2.2.2)).2 = true then consE ⟨(wL L).2.1, (p : Int), (wL L).2.2.1, (wL L).2.2.2.1⟩ (tk0 n ((L.drop (wL L).2.2.2.2).drop (skl (L.drop (wL L).2.2.2.2)).1) (p + (wL L).2.2.2.2 + (skl (L.drop (wL L).2.2.2.2)).1)) else .error (p + (wL L).2.2.2.2 + (skl (L.drop (wL L).2.2.2.2)).1, 30)) else .error (p, (wL L).1) := by
  simp only [tk0]
  rw [if_neg h]
theorem ne_len {L : List UInt8} (h : L ≠ []) : 1 ≤ L.length := by
  cases L with
  | nil => exact absurd rfl h
  | cons c R => simp
theorem tk0_fuel : ∀ (n m : Nat) (L : List UInt8) (p : Nat), L.length ≤ 1000000 → L.length < n → L.length < m → tk0 n L p = tk0 m L p
  | 0, m, L, p, h0, hn, hm => by omega
  | n + 1, 0, L, p, h0, hn, hm => by omega
  | n + 1, m + 1, L, p, h0, hn, hm => by
    by_cases c1 : L = []
    · simp only [tk0]
      rw [if_pos c1, if_pos c1]
    · rw [tk0_cons n p c1, tk0_cons m p c1]
      have hne := ne_len c1
      by_cases c2 : (wL L).1 = 0
      · rw [if_pos c2, if_pos c2]
        obtain ⟨b1, b2, b3⟩ := wL_bd h0 c2
        rw [tk0_fuel n m ((L.drop (wL L).2.2.2.2).drop (skl (L.drop (wL L).2.2.2.2)).1) _ (by simp only [List.length_drop]; omega) (by simp only [List.length_drop]; omega) (by simp only [List.length_drop]; omega)]
      · rw [if_neg c2, if_neg c2]
/-- An error is one, and its place lies within the text; words: not more than bytes, and one. -/
theorem tk0_bd : ∀ (n : Nat) (L : List UInt8) (p : Nat), L.length ≤ 1000000 → L.length < n → match tk0 n L p with | .ok l => 1 ≤ l.length ∧ l.length ≤ L.length + 1 | .error e => e.2 ≠ 0 ∧ e.1 ≤ p + L.length
  | 0, L, p, h0, hn => by omega
  | n + 1, L, p, h0, hn => by
    by_cases c1 : L = []
    · simp only [tk0]
      rw [if_pos c1]
      simp
    · rw [tk0_cons n p c1]
      have hne := ne_len c1
      by_cases c2 : (wL L).1 = 0
      · rw [if_pos c2]
        obtain ⟨b1, b2, b3⟩ := wL_bd h0 c2
        have hk : (skl (L.drop (wL L).2.2.2.2)).1 ≤ (L.drop (wL L).2.2.2.2).length := skL_bd _ _
        rw [List.length_drop] at hk
        by_cases c3 : (skl (L.drop (wL L).2.2.2.2)).2 = true
        · rw [if_pos c3]
          have hi := tk0_bd n ((L.drop (wL L).2.2.2.2).drop (skl (L.drop (wL L).2.2.2.2)).1) (p + (wL L).2.2.2.2 + (skl (L.drop (wL L).2.2.2.2)).1) (by simp only [List.length_drop]; omega) (by simp only [List.length_drop]; omega)
          revert hi
          cases tk0 n ((L.drop (wL L).2.2.2.2).drop (skl (L.drop (wL L).2.2.2.2)).1) (p + (wL L).2.2.2.2 + (skl (L.drop (wL L).2.2.2.2)).1) with
          | ok l =>
            simp only [consE, List.length_drop, List.length_cons]
            omega
          | error e =>
            simp only [consE, List.length_drop]
            intro hi
            exact ⟨hi.1, by omega⟩
        · rw [if_neg c3]
          exact ⟨by show (30 : Int) ≠ 0; decide, by show p + _ + _ ≤ _; omega⟩
      · rw [if_neg c2]
        exact ⟨c2, by show p ≤ _; omega⟩
theorem tkl_bd {L : List UInt8} (h0 : L.length ≤ 1000000) : match tkl L with | .ok l => 1 ≤ l.length ∧ l.length ≤ L.length + 1 | .error e => e.2 ≠ 0 ∧ e.1 ≤ L.length := by
  unfold tkl
  have hk : (skl L).1 ≤ L.length := skL_bd _ _
  by_cases c : (skl L).2 = true
  · rw [if_pos c]
    have := tk0_bd (L.length + 1) (L.drop (skl L).1) (skl L).1 (by rw [List.length_drop]; omega) (by rw [List.length_drop]; omega)
    revert this
    cases tk0 (L.length + 1) (L.drop (skl L).1) (skl L).1 with
    | ok l =>
      simp only [List.length_drop]
      omega
    | error e =>
      simp only [List.length_drop]
      intro h
      exact ⟨h.1, by omega⟩
  · rw [if_neg c]
    exact ⟨by show (30 : Int) ≠ 0; decide, hk⟩
/-- Bytes as numbers. -/
def lst (l : List Int) : List UInt8 := l.map fun n => UInt8.ofNat n.toNat
theorem lst_mk (l : List Int) : strOfNums l = mkB (lst l) := rfl
theorem lst_len (l : List Int) : (lst l).length = l.length := List.length_map _
theorem tokens_ev {l : List Int} (hl : l.length ≤ 60000) : Ev (fun k => token_Tokens.f k l) (res [] (tkl (lst l))) := tkl_ev (by rw [lst_len]; exact hl) (lst_len l).symm (lst_mk l)
end Go.Proofs.Ytholgbdfflabhaa.Tkl
end
section
/- The words of a text behind which two blanks and another text stand. Conditions: as each theorem says. -/
namespace Go.Proofs.Ytholgbdfflabhaa.Tkl
open Go.RowKit Go.Proofs.YtholgbdfflabhaaW.PrintWords Go.Proofs.YtholgbdfflabhaaW.PrintMore Go.Proofs.Ytholgbdfflabhaa.Evs Go.Proofs.Ytholgbdfflabhaa.Opn Go.Proofs.Ytholgbdfflabhaa.PTk Go.Proofs.Ytholgbdfflabhaa.Giv

theorem ten : blnk 10 = true ∧ fd 10 = true ∧ inn 10 = false ∧ lett 10 = false ∧ hexv 10 < 0 := by decide +kernel
section
variable {L X : List UInt8}
theorem hd_app {g : UInt8 → Bool} (hg : g 10 = false) (L X : List UInt8) : hd g (L ++ 10 :: X) = hd g L := by
  cases L with
  | nil => exact hg
  | cons c R => rfl
theorem hd_app' {g : UInt8 → Bool} (h : 1 ≤ L.length) : hd g (L ++ X) = hd g L := by
  cases L with
  | nil => simp at h
  | cons c R => rfl
theorem drop_app {n : Nat} (h : n ≤ L.length) : (L ++ X).drop n = L.drop n ++ X := List.drop_append_of_le_length h
theorem hx_app (X : List UInt8) : ∀ (d : Nat) (L : List UInt8) (n : Int), hx d (L ++ 10 :: X) n = hx d L n
  | 0, L, n => by simp only [hx]
  | d + 1, [], n => by
    simp only [List.nil_append, hx]
    rw [if_pos ten.2.2.2.2]
  | d + 1, c :: L, n => by
    simp only [List.cons_append, hx]
    rw [hx_app X d L]
theorem esc_none (h : escL L = none) : escL (L ++ 10 :: X) = none := by
  match L, h with
  | [], h =>
    cases X with
    | nil => rfl
    | cons c R =>
      simp only [List.nil_append, escL]
      rw [if_neg (by simp)]
  | [b], h =>
    simp only [List.cons_append, List.nil_append, escL]
    rw [if_neg (by rw [ten.2.1]; simp)]
  | b :: c :: R, h =>
    simp only [escL] at h
    simp only [List.cons_append, escL]
    split at h
    · split at h <;> cases h
    · rename_i h1
      rw [if_neg h1]
theorem esc_some {r : List UInt8 × Nat} (h : escL L = some r) : ∃ d, escL (L ++ 10 :: X) = some (r.1, r.2 + d) ∧ (d = 0 ∨ (d = 1 ∧ r.2 = L.length)) := by
  match L, h with
  | b :: c :: R, h =>
    have hh := hx_app X 6 (c :: R) 0
    have hb := (hx_bd 6 (c :: R) 0 (by decide)).2.2
    simp only [List.cons_append] at hh
    simp only [escL] at h
    simp only [List.cons_append, escL]
    rw [hh]
    split at h
    · rename_i h1
      rw [if_pos h1]
      split at h
      · rename_i h2
        rw [if_pos h2]
        obtain rfl := Option.some.inj h
        exact ⟨0, rfl, Or.inl rfl⟩
      · rename_i h2
        rw [if_neg h2]
        obtain rfl := Option.some.inj h
        rw [show c :: (R ++ 10 :: X) = (c :: R) ++ 10 :: X from rfl, drop_app hb]
        by_cases h3 : (c :: R).drop (hx 6 (c :: R) 0).2 = []
        · have hl : (hx 6 (c :: R) 0).2 = (c :: R).length := by
            have := congrArg List.length h3
            rw [List.length_drop] at this
            simp only [List.length_nil] at this
            omega
          rw [h3]
          refine ⟨1, ?_, Or.inr ⟨rfl, ?_⟩⟩
          · rw [if_pos (show hd blnk ([] ++ 10 :: X) = true from ten.1), if_neg (show ¬ hd blnk [] = true by simp [hd])]
          · rw [if_neg (show ¬ hd blnk [] = true by simp [hd]), hl]
            rfl
        · rw [hd_app' (ne_len h3)]
          exact ⟨0, rfl, Or.inl rfl⟩
    · cases h
theorem escZ_none (h : escZ L = none) : escZ (L ++ 10 :: X) = none := by
  unfold escZ at h ⊢
  cases he : escL L with
  | none => rw [esc_none he]
  | some r =>
    rw [he] at h
    obtain ⟨d, h1, _⟩ := esc_some (X := X) he
    have hb := (escL_bd he).1
    have hb2 := (escL_bd he).2.1
    rw [h1]
    simp only [] at h ⊢
    rw [drop_app (by omega), hd_app' (by rw [List.length_drop]; omega)]
    split at h
    · cases h
    · rename_i h2
      rw [if_neg h2]
theorem escZ_app {r : List UInt8 × Nat} (h : escZ L = some r) : ∃ d, escZ (L ++ 10 :: X) = some (r.1, r.2 + d) ∧ (d = 0 ∨ (d = 1 ∧ r.2 = L.length)) := by
  obtain ⟨h1, h2⟩ := escZ_some h
  obtain ⟨d, h3, h4⟩ := esc_some (X := X) h1
  have hb := (escL_bd h1).1
  have hb2 := (escL_bd h1).2.1
  refine ⟨d, ?_, h4⟩
  unfold escZ
  rw [h3]
  simp only []
  rw [drop_app (by omega), hd_app' (by rw [List.length_drop]; omega), if_pos h2]
theorem escZ_is : (escZ (L ++ 10 :: X)).isSome = (escZ L).isSome := by
  cases h : escZ L with
  | none => rw [escZ_none h]
  | some r =>
    obtain ⟨d, h1, _⟩ := escZ_app (X := X) h
    rw [h1]
    rfl
theorem beg_app (L X : List UInt8) : begL (L ++ 10 :: X) = begL L := by
  unfold begL
  rw [hd_app (g := fun c => c == 45) (by decide), hd_app ten.2.2.2.1, escZ_is]
  by_cases h : hd (fun c => c == 45) L = true
  · rw [if_pos h, if_pos h]
    rw [drop_app (hd_len h), hd_app (g := fun c => c == 45) (by decide), hd_app ten.2.2.2.1, escZ_is]
  · rw [if_neg h, if_neg h]
theorem idl_ten (X : List UInt8) : idl (10 :: X) = ([], 0) := by
  show idL (X.length + 1) (10 :: X) = _
  simp only [idL]
  rw [if_neg (by rw [show hd inn (10 :: X) = inn 10 from rfl, ten.2.2.1]; simp)]
  have : escZ (10 :: X) = none := escZ_none (L := []) (X := X) rfl
  rw [this]
theorem idl_eq (L : List UInt8) : idl L = if hd inn L = true then (L.take 1 ++ (idl (L.drop 1)).1, (idl (L.drop 1)).2 + 1) else match escZ L with
    | some r => (r.1 ++ (idl (L.drop r.2)).1, r.2 + (idl (L.drop r.2)).2)
    | none => ([], 0) := by
  cases L with
  | nil => rfl
  | cons c R =>
    show idL (R.length + 1) (c :: R) = _
    simp only [idL]
    by_cases h : hd inn (c :: R) = true
    · rw [if_pos h, if_pos h]
      rfl
    · rw [if_neg h, if_neg h]
      cases e : escZ (c :: R) with
      | some r =>
        have hb := escZ_bd e
        simp only [List.length_cons] at hb
        simp only []
        rw [idL_fuel R.length ((c :: R).drop r.2).length ((c :: R).drop r.2) (by rw [List.length_drop]; simp only [List.length_cons]; omega) (Nat.le_refl _)]
      | none => rfl
theorem idl_app (X : List UInt8) : ∀ (n : Nat) (L : List UInt8), L.length ≤ n → ∃ d, idl (L ++ 10 :: 10 :: X) = ((idl L).1, (idl L).2 + d) ∧ (d = 0 ∨ (d = 1 ∧ (idl L).2 = L.length))
  | n, [], hn => ⟨0, by
    rw [List.nil_append, idl_ten]
    rfl, Or.inl rfl⟩
  | 0, c :: R, hn => by simp at hn
  | n + 1, c :: R, hn => by
    simp only [List.length_cons] at hn
    have e1 := idl_eq (c :: R)
    have e2 := idl_eq ((c :: R) ++ 10 :: 10 :: X)
    rw [hd_app ten.2.2.1] at e2
    by_cases h : hd inn (c :: R) = true
    · rw [if_pos h] at e1 e2
      obtain ⟨d, h1, h2⟩ := idl_app X n R (by omega)
      refine ⟨d, ?_, ?_⟩
      · rw [e2, e1]
        show ([c] ++ (idl (R ++ 10 :: 10 :: X)).1, (idl (R ++ 10 :: 10 :: X)).2 + 1) = ([c] ++ (idl R).1, (idl R).2 + 1 + d)
        rw [h1]
        simp only [Prod.mk.injEq, true_and]
        omega
      · rcases h2 with h2 | ⟨h2, h3⟩
        · exact Or.inl h2
        · refine Or.inr ⟨h2, ?_⟩
          rw [e1]
          show (idl R).2 + 1 = R.length + 1
          omega
    · rw [if_neg h] at e1 e2
      cases he : escZ (c :: R) with
      | none =>
        rw [escZ_none he] at e2
        rw [he] at e1
        refine ⟨0, ?_, Or.inl rfl⟩
        rw [e2, e1]
      | some r =>
        obtain ⟨d, h1, h2⟩ := escZ_app (X := 10 :: X) he
        have hb := escZ_bd he
        simp only [List.length_cons] at hb
        rw [h1] at e2
        rw [he] at e1
        simp only [] at e1 e2
        rcases h2 with rfl | ⟨rfl, h2⟩
        · rw [Nat.add_zero, drop_app (by simp only [List.length_cons]; omega)] at e2
          obtain ⟨d, h3, h4⟩ := idl_app X n ((c :: R).drop r.2) (by rw [List.length_drop]; simp only [List.length_cons]; omega)
          refine ⟨d, ?_, ?_⟩
          · rw [e2, e1, h3]
            simp only [Prod.mk.injEq, true_and]
            omega
          · rcases h4 with h4 | ⟨h4, h5⟩
            · exact Or.inl h4
            · refine Or.inr ⟨h4, ?_⟩
              rw [e1]
              simp only []
              rw [h5, List.length_drop]
              simp only [List.length_cons]
              omega
        · have e3 : ((c :: R) ++ 10 :: 10 :: X).drop (r.2 + 1) = 10 :: X := by
            rw [← List.drop_drop, drop_app (by omega), h2, List.drop_length]
            rfl
          have e4 : (c :: R).drop r.2 = [] := by rw [h2, List.drop_length]
          rw [e3, idl_ten] at e2
          rw [e4] at e1
          refine ⟨1, ?_, Or.inr ⟨rfl, ?_⟩⟩
          · rw [e2, e1]
            rfl
          · rw [e1]
            show r.2 + 0 = _
            omega
theorem ql_app (X : List UInt8) (e : Int) : ∀ (n m : Nat) (L : List UInt8) (q : List UInt8 × Nat), (L ++ 10 :: X).length ≤ m → qL n e L = some q → qL m e (L ++ 10 :: X) = some q
  | 0, m, L, q, hm, h => by simp [qL] at h
  | n + 1, m, [], q, hm, h => by simp [qL] at h
  | n + 1, 0, c :: R, q, hm, h => by simp at hm
  | n + 1, m + 1, c :: R, q, hm, h => by
    simp only [List.length_append, List.length_cons] at hm
    rw [List.cons_append]
    simp only [qL] at h ⊢
    split at h
    · rename_i c1
      rw [if_pos c1]
      exact h
    · rename_i c1
      rw [if_neg c1]
      split at h
      · cases h
      · rename_i c2
        rw [if_neg c2]
        split at h
        · cases h
        · rename_i c3
          rw [if_neg c3]
          split at h
          · rename_i c4
            rw [if_pos c4]
            cases he : escZ (c :: R) with
            | some r =>
              rw [he] at h
              simp only [] at h
              obtain ⟨q', hq, rfl⟩ := Option.map_eq_some_iff.1 h
              obtain ⟨a, b, d⟩ := qL_bd n e _ _ hq
              have hb := escZ_bd he
              rw [List.length_drop] at b
              obtain ⟨d, h1, h2⟩ := escZ_app (X := X) he
              rcases h2 with rfl | ⟨_, h2⟩
              · rw [show c :: (R ++ 10 :: X) = (c :: R) ++ 10 :: X from rfl, h1]
                simp only [Nat.add_zero]
                rw [drop_app (by omega), ql_app X e n m _ _ (by rw [List.length_append, List.length_drop]; simp only [List.length_cons]; omega) hq]
                rfl
              · omega
            | none =>
              rw [he] at h
              simp only [] at h
              rw [show c :: (R ++ 10 :: X) = (c :: R) ++ 10 :: X from rfl, escZ_none he]
              simp only []
              split at h
              · rename_i c5
                obtain ⟨q', hq, rfl⟩ := Option.map_eq_some_iff.1 h
                obtain ⟨a, b, d⟩ := qL_bd n e _ _ hq
                have hl := hd_len c5
                have hl2 : 1 ≤ (R.drop 1).length := by
                  rw [List.length_drop] at b ⊢
                  simp only [List.length_cons] at b
                  split at b <;> omega
                rw [hd_app' hl, if_pos c5, hd_app' hl, drop_app hl, hd_app' hl2]
                have hj : (if (hd (fun x => x == 13) R && hd (fun x => x == 10) (R.drop 1)) = true then 3 else 2) ≤ (c :: R).length := by
                  rw [List.length_drop] at b
                  omega
                have hj2 : 2 ≤ (if (hd (fun x => x == 13) R && hd (fun x => x == 10) (R.drop 1)) = true then 3 else 2) := by
                  split <;> omega
                generalize (if (hd (fun x => x == 13) R && hd (fun x => x == 10) (R.drop 1)) = true then 3 else 2) = j at *
                rw [drop_app hj, ql_app X e n m _ _ (by rw [List.length_append, List.length_drop]; simp only [List.length_cons] at hj ⊢; rw [List.length_drop] at b; simp only [List.length_cons] at b; omega) hq]
                rfl
              · cases h
          · rename_i c4
            rw [if_neg c4]
            obtain ⟨q', hq, rfl⟩ := Option.map_eq_some_iff.1 h
            rw [ql_app X e n m _ _ (by simp only [List.length_append, List.length_cons]; omega) hq]
            rfl
theorem index_app (X : List UInt8) : ∀ (L : List UInt8), ¬ Lib.index L [42, 47] < 0 → Lib.index (L ++ X) [42, 47] = Lib.index L [42, 47]
  | [], h => by simp [Lib.index] at h
  | b :: l, h => by
    have hbd := index_bd h
    rw [List.cons_append]
    unfold Lib.index at h ⊢
    by_cases h1 : [42, 47].isPrefixOf (b :: l) = true
    · rw [if_pos h1]
      have h2 : [42, 47].isPrefixOf (b :: (l ++ X)) = true := by
        obtain ⟨t, ht⟩ := List.isPrefixOf_iff_prefix.1 h1
        exact List.isPrefixOf_iff_prefix.2 ⟨t ++ X, by rw [← List.append_assoc, ht]; rfl⟩
      rw [if_pos h2]
    · rw [if_neg h1] at h ⊢
      have h2 : ¬ [42, 47].isPrefixOf (b :: (l ++ X)) = true := by
        intro h2
        apply h1
        match l, h2, hbd with
        | c :: l', h2, _ => simpa [List.isPrefixOf] using h2
        | [], h2, hb => simp at hb
      rw [if_neg h2]
      have hg := Lib.index_ge l [42, 47]
      by_cases h3 : (Lib.index l [42, 47] == -1) = true
      · rw [if_pos h3] at h
        exact absurd (by decide) h
      · have h4 : ¬ Lib.index l [42, 47] < 0 := by
          have : ¬ Lib.index l [42, 47] = -1 := by simpa using h3
          omega
        rw [index_app X l h4]
theorem com_app (L X : List UInt8) : isCom (L ++ 10 :: X) = isCom L := by
  match L with
  | [] =>
    cases X with
    | nil => rfl
    | cons c R => rfl
  | [b] =>
    show (b == 47 && (10 : UInt8) == 42) = false
    simp
  | b :: c :: R => rfl
theorem skl_app (X : List UInt8) : ∀ (n : Nat) (L : List UInt8), L.length ≤ n → (skl L).2 = true → skl (L ++ 10 :: X) = if (skl L).1 < L.length then skl L else (L.length + (skl (10 :: X)).1, (skl (10 :: X)).2)
  | n, [], hn, h => by
    rw [List.nil_append, if_neg (by simp)]
    simp
  | 0, c :: R, hn, h => by simp at hn
  | n + 1, c :: R, hn, h => by
    simp only [List.length_cons] at hn
    have e1 := skl_eq c R
    have e2 := skl_eq c (R ++ 10 :: X)
    rw [show c :: (R ++ 10 :: X) = (c :: R) ++ 10 :: X from rfl, com_app] at e2
    by_cases c1 : blnk c = true
    · rw [if_pos c1] at e1 e2
      rw [e1] at h
      have hi := skl_app X n R (by omega) h
      rw [e2, hi, e1]
      by_cases h1 : (skl R).1 < R.length
      · rw [if_pos h1, if_pos (by simp only [List.length_cons]; omega)]
      · rw [if_neg h1, if_neg (by simp only [List.length_cons]; omega)]
        simp only [List.length_cons, Prod.mk.injEq, and_true]
        omega
    · rw [if_neg c1] at e1 e2
      by_cases c2 : isCom (c :: R) = true
      · have h2 := com_len c2
        rw [if_pos c2] at e1 e2
        rw [drop_app h2] at e2
        by_cases c3 : Lib.index ((c :: R).drop 2) [42, 47] < 0
        · rw [if_pos c3] at e1
          rw [e1] at h
          cases h
        · rw [index_app _ _ c3, if_neg c3] at e2
          rw [if_neg c3] at e1
          have h4 := index_bd c3
          generalize (Lib.index ((c :: R).drop 2) [42, 47]).toNat = q at *
          rw [List.length_drop] at h4
          rw [drop_app (by omega)] at e2
          rw [e1] at h
          have hi := skl_app X n ((c :: R).drop (q + 4)) (by rw [List.length_drop]; simp only [List.length_cons]; omega) h
          have hbd : (skl ((c :: R).drop (q + 4))).1 ≤ ((c :: R).drop (q + 4)).length := skL_bd _ _
          rw [e2, hi, e1]
          rw [List.length_drop] at hbd ⊢
          by_cases h1 : (skl ((c :: R).drop (q + 4))).1 < (c :: R).length - (q + 4)
          · rw [if_pos h1, if_pos (by simp only []; omega)]
          · rw [if_neg h1, if_neg (by simp only []; omega)]
            simp only [Prod.mk.injEq, and_true]
            omega
      · rw [if_neg c2] at e1 e2
        rw [e2, e1, if_pos (by simp)]
end

/-! ### A number -/
section
variable {L X : List UInt8}
theorem bt_mk {L : List UInt8} {i : Nat} (h : i < L.length) : bt (mkB L) (i : Int) = (L[i].toNat : Int) := by
  have hr : Rs (mkB L) i (L.drop i) := by
    have := (Rs.whole L).drop (n := i) (by omega)
    rwa [Nat.zero_add] at this
  rw [List.drop_eq_getElem_cons h] at hr
  exact hr.byte
theorem bt_app {i : Nat} (h : i < L.length) : bt (mkB (L ++ X)) (i : Int) = bt (mkB L) (i : Int) := by
  rw [bt_mk h, bt_mk (by rw [List.length_append]; omega), List.getElem_append_left h]
theorem bt_ten : bt (mkB (L ++ 10 :: X)) (L.length : Int) = 10 := by
  rw [bt_mk (by simp), List.getElem_append_right (Nat.le_refl _)]
  simp
theorem sign_app {i : Nat} (h : i ≤ L.length) : number_parts.isSign (mkB (L ++ 10 :: X)) i = number_parts.isSign (mkB L) i := by
  unfold number_parts.isSign
  rw [mk_size, mk_size, List.length_append, List.length_cons]
  by_cases h1 : i < L.length
  · rw [bt_app h1, decide_eq_true h1, decide_eq_true (by omega)]
  · obtain rfl : i = L.length := by omega
    rw [bt_ten, decide_eq_false h1]
    simp
theorem dot_app {i : Nat} (h : i ≤ L.length) : number_parts.isDot (mkB (L ++ 10 :: X)) i = number_parts.isDot (mkB L) i := by
  unfold number_parts.isDot
  rw [mk_size, mk_size, List.length_append, List.length_cons]
  by_cases h1 : i < L.length
  · rw [bt_app h1, decide_eq_true h1, decide_eq_true (by omega)]
  · obtain rfl : i = L.length := by omega
    rw [bt_ten, decide_eq_false h1]
    simp
theorem e_app {i : Nat} (h : i ≤ L.length) : number_parts.isE (mkB (L ++ 10 :: X)) i = number_parts.isE (mkB L) i := by
  unfold number_parts.isE
  rw [mk_size, mk_size, List.length_append, List.length_cons]
  by_cases h1 : i < L.length
  · rw [bt_app h1, decide_eq_true h1, decide_eq_true (by omega)]
  · obtain rfl : i = L.length := by omega
    rw [bt_ten, decide_eq_false h1]
    simp
theorem stop_app : ∀ (d i : Nat), L.length - i = d → i ≤ L.length → number_parts.stop (mkB (L ++ 10 :: X)) i = number_parts.stop (mkB L) i
  | 0, i, hd, h => by
    obtain rfl : i = L.length := by omega
    have h1 := number_parts.stop_end (mkB L)
    rw [mk_size] at h1
    rw [h1]
    refine number_parts.stop_here _ _ (by rw [mk_size]; simp) ?_
    rw [bt_ten]
    decide
  | d + 1, i, hd, h => by
    have hi : i < L.length := by omega
    have hs1 : i < (mkB L).size := by rw [mk_size]; exact hi
    have hs2 : i < (mkB (L ++ 10 :: X)).size := by rw [mk_size, List.length_append]; omega
    by_cases hd1 : number_digit.f (bt (mkB L) (i : Int)) = some true
    · rw [number_parts.stop_next _ _ hs1 hd1, number_parts.stop_next _ _ hs2 (by rw [bt_app hi]; exact hd1)]
      exact stop_app d (i + 1) (by omega) (by omega)
    · rw [number_parts.stop_here _ _ hs1 hd1, number_parts.stop_here _ _ hs2 (by rw [bt_app hi]; exact hd1)]
theorem sgn_app {i : Nat} (h : i ≤ L.length) : number_parts.sgn (mkB (L ++ 10 :: X)) i = number_parts.sgn (mkB L) i ∧ number_parts.sgn (mkB L) i ≤ L.length := by
  unfold number_parts.sgn
  rw [sign_app h]
  refine ⟨rfl, ?_⟩
  split
  · rename_i h1
    unfold number_parts.isSign at h1
    rw [mk_size] at h1
    simp only [Bool.and_eq_true, decide_eq_true_eq] at h1
    omega
  · exact h
theorem stop_le {i : Nat} (h : i ≤ L.length) : number_parts.stop (mkB L) i ≤ L.length := by
  have := (number_parts.stop_bd (mkB L) i (by rw [mk_size]; exact h)).2
  rwa [mk_size] at this
theorem scn_app (L X : List UInt8) : scn (L ++ 10 :: X) = scn L := by
  have a0 : number_parts.w0 (mkB (L ++ 10 :: X)) = number_parts.w0 (mkB L) ∧ number_parts.w0 (mkB L) ≤ L.length := sgn_app (Nat.zero_le _)
  have a1 : number_parts.w1 (mkB (L ++ 10 :: X)) = number_parts.w1 (mkB L) ∧ number_parts.w1 (mkB L) ≤ L.length := by
    unfold number_parts.w1
    rw [a0.1]
    exact ⟨stop_app _ _ rfl a0.2, stop_le a0.2⟩
  have hdot := dot_app (X := X) a1.2
  have hlt : number_parts.isDot (mkB L) (number_parts.w1 (mkB L)) = true → number_parts.w1 (mkB L) + 1 ≤ L.length := by
    intro h1
    unfold number_parts.isDot at h1
    rw [mk_size] at h1
    simp only [Bool.and_eq_true, decide_eq_true_eq] at h1
    omega
  have ap : number_parts.p1 (mkB (L ++ 10 :: X)) = number_parts.p1 (mkB L) ∧ number_parts.p1 (mkB L) ≤ L.length := by
    unfold number_parts.p1
    rw [a1.1, hdot]
    split
    · rename_i h1
      exact ⟨stop_app _ _ rfl (hlt h1), stop_le (hlt h1)⟩
    · exact ⟨rfl, a1.2⟩
  have a2 : number_parts.at2 (mkB (L ++ 10 :: X)) = number_parts.at2 (mkB L) ∧ number_parts.at2 (mkB L) ≤ L.length := by
    unfold number_parts.at2
    rw [a1.1, hdot, ap.1]
    refine ⟨rfl, ?_⟩
    split
    · split
      · exact a1.2
      · exact ap.2
    · exact a1.2
  have hE := e_app (X := X) a2.2
  have ax : number_parts.isE (mkB L) (number_parts.at2 (mkB L)) = true → number_parts.x0 (mkB (L ++ 10 :: X)) = number_parts.x0 (mkB L) ∧ number_parts.x1 (mkB (L ++ 10 :: X)) = number_parts.x1 (mkB L) := by
    intro h1
    unfold number_parts.isE at h1
    rw [mk_size] at h1
    simp only [Bool.and_eq_true, decide_eq_true_eq] at h1
    have h2 : number_parts.x0 (mkB (L ++ 10 :: X)) = number_parts.x0 (mkB L) ∧ number_parts.x0 (mkB L) ≤ L.length := by
      unfold number_parts.x0
      rw [a2.1]
      exact sgn_app (by omega)
    refine ⟨h2.1, ?_⟩
    unfold number_parts.x1
    rw [h2.1]
    exact stop_app _ _ rfl h2.2
  have ah : number_parts.hasE (mkB (L ++ 10 :: X)) = number_parts.hasE (mkB L) := by
    unfold number_parts.hasE
    rw [a2.1, hE]
    cases h : number_parts.isE (mkB L) (number_parts.at2 (mkB L)) with
    | false => rfl
    | true => rw [(ax h).1, (ax h).2]
  unfold scn
  rw [a0.1, a1.1, a2.1, ah]
  by_cases h : number_parts.hasE (mkB L) = true
  · have h1 := h
    unfold number_parts.hasE at h1
    simp only [Bool.and_eq_true] at h1
    rw [(ax h1.1).2]
  · rw [if_neg h, if_neg h]
end
end Go.Proofs.Ytholgbdfflabhaa.Tkl
end
section
/- The words of two texts with two blanks between them are those of both. Conditions: as each theorem says. -/
namespace Go.Proofs.Ytholgbdfflabhaa.Tkl
open Go.RowKit Go.Proofs.YtholgbdfflabhaaW.PrintWords Go.Proofs.YtholgbdfflabhaaW.PrintMore Go.Proofs.Ytholgbdfflabhaa.Evs Go.Proofs.Ytholgbdfflabhaa.Opn Go.Proofs.Ytholgbdfflabhaa.PTk Go.Proofs.Ytholgbdfflabhaa.Giv

/-- A word, with more bytes to its end. -/
def more (w : W) (d : Nat) : W := (w.1, w.2.1, w.2.2.1, w.2.2.2.1, w.2.2.2.2 + d)
section
variable {L X : List UInt8}
theorem wNum_app {n : Nat} {t M : List UInt8} (h0 : (wNum n t M).1 = 0) : ∃ d, wNum n t (M ++ 10 :: 10 :: X) = more (wNum n t M) d ∧ (d = 0 ∨ (d = 1 ∧ (wNum n t M).2.2.2.2 = n + M.length)) := by
  unfold wNum at h0 ⊢
  rw [hd_app (g := fun c => c == 37) (by decide), beg_app]
  by_cases c1 : hd (fun c => c == 37) M = true
  · simp only [if_pos c1]
    exact ⟨0, rfl, Or.inl rfl⟩
  · simp only [if_neg c1] at h0 ⊢
    by_cases c2 : begL M = true
    · simp only [if_pos c2] at h0 ⊢
      obtain ⟨d, h1, h2⟩ := idl_app X M.length M (Nat.le_refl _)
      by_cases c3 : (idl M).1.length ≤ 64
      · refine ⟨d, ?_, ?_⟩
        · rw [h1, if_pos c3, if_pos c3]
          unfold more
          simp only [Nat.add_assoc]
        · rcases h2 with h2 | ⟨h2, h3⟩
          · exact Or.inl h2
          · refine Or.inr ⟨h2, ?_⟩
            rw [if_pos c3]
            show n + (idl M).2 = _
            rw [h3]
      · rw [if_neg c3] at h0
        exact absurd h0 (by decide)
    · simp only [if_neg c2]
      exact ⟨0, rfl, Or.inl rfl⟩
theorem wId_app (h0 : (wId L).1 = 0) : ∃ d, wId (L ++ 10 :: 10 :: X) = more (wId L) d ∧ (d = 0 ∨ (d = 1 ∧ (wId L).2.2.2.2 = L.length)) := by
  unfold wId at h0 ⊢
  obtain ⟨d, h1, h2⟩ := idl_app X L.length L (Nat.le_refl _)
  have hb : (idl L).2 ≤ L.length := (idL_bd _ _).1
  by_cases c1 : (idl L).1.length ≤ 64
  · rw [h1]
    simp only [if_pos c1]
    rcases h2 with rfl | ⟨rfl, h3⟩
    · rw [Nat.add_zero, drop_app hb, hd_app (g := fun c => c == 40) (by decide)]
      refine ⟨0, ?_, Or.inl rfl⟩
      split <;> rfl
    · have e1 : (L ++ 10 :: 10 :: X).drop ((idl L).2 + 1) = 10 :: X := by
        rw [← List.drop_drop, drop_app hb, h3, List.drop_length]
        rfl
      have e2 : L.drop (idl L).2 = [] := by rw [h3, List.drop_length]
      rw [e1, e2]
      refine ⟨1, ?_, Or.inr ⟨rfl, ?_⟩⟩
      · rw [if_neg (by simp [hd]), if_neg (by simp [hd])]
        rfl
      · rw [if_neg (by simp [hd])]
        exact h3
  · rw [if_neg c1] at h0
    exact absurd h0 (by decide)
theorem wRest_app (h0 : (wRest L).1 = 0) : wRest (L ++ 10 :: 10 :: X) = wRest L := by
  cases L with
  | nil => exact absurd h0 (by decide)
  | cons c R =>
    rw [List.cons_append]
    simp only [wRest] at h0 ⊢
    by_cases c1 : (c.toNat : Int) = 34 ∨ (c.toNat : Int) = 39
    · simp only [if_pos c1] at h0 ⊢
      cases hq : ql (c.toNat : Int) R with
      | none =>
        rw [hq] at h0
        exact absurd h0 (by decide)
      | some t =>
        have : ql (c.toNat : Int) (R ++ 10 :: 10 :: X) = some t := ql_app (10 :: X) _ _ _ R t (Nat.le_refl _) hq
        rw [this]
    · simp only [if_neg c1]
theorem wL_app (h0 : (wL L).1 = 0) (hl : L.length ≤ 1000000) : ∃ d, wL (L ++ 10 :: 10 :: X) = more (wL L) d ∧ (d = 0 ∨ (d = 1 ∧ (wL L).2.2.2.2 = L.length)) := by
  unfold wL at h0 ⊢
  have hs := (scn_is hl).2
  rw [scn_app, beg_app]
  by_cases c1 : scn L > 0
  · simp only [if_pos c1] at h0 ⊢
    rw [drop_app hs, List.take_append_of_le_length hs]
    obtain ⟨d, h1, h2⟩ := wNum_app (X := X) h0
    refine ⟨d, h1, ?_⟩
    rcases h2 with h2 | ⟨h2, h3⟩
    · exact Or.inl h2
    · refine Or.inr ⟨h2, ?_⟩
      rw [h3, List.length_drop]
      omega
  · simp only [if_neg c1] at h0 ⊢
    by_cases c2 : begL L = true
    · simp only [if_pos c2] at h0 ⊢
      exact wId_app h0
    · simp only [if_neg c2] at h0 ⊢
      exact ⟨0, wRest_app h0, Or.inl rfl⟩
end
/-- What words come of a text, at a place. -/
def tks (m : Nat) (L : List UInt8) (p : Nat) : Except (Nat × Int) (List S29) := if (skl L).2 = true then tk0 m (L.drop (skl L).1) (p + (skl L).1) else .error (p + (skl L).1, 30)
theorem tks_tkl {m : Nat} {L : List UInt8} (hl : L.length ≤ 1000000) (hm : L.length < m) (p : Nat) : tks m L p = shift p (tkl L) := by
  unfold tks tkl
  by_cases c : (skl L).2 = true
  · rw [if_pos c, if_pos c, tk0_shift, tk0_fuel m (L.length + 1) _ _ (by rw [List.length_drop]; omega) (by rw [List.length_drop]; omega) (by rw [List.length_drop]; omega)]
  · rw [if_neg c, if_neg c]
    rfl
theorem skl_ten (X : List UInt8) : skl (10 :: X) = ((skl X).1 + 1, (skl X).2) := by
  rw [skl_eq, if_pos ten.1]
theorem tks_ten {m : Nat} {X : List UInt8} (p : Nat) : tks m (10 :: X) p = tks m X (p + 1) := by
  unfold tks
  rw [skl_ten]
  simp only []
  rw [show p + ((skl X).1 + 1) = p + 1 + (skl X).1 by omega]
  rfl
def prep (ws : List S29) : Except (Nat × Int) (List S29) → Except (Nat × Int) (List S29)
  | .ok l => .ok (ws ++ l)
  | .error e => .error e
theorem prep_nil (r : Except (Nat × Int) (List S29)) : prep [] r = r := by
  cases r <;> rfl
theorem consE_prep (t : S29) (ws : List S29) (r : Except (Nat × Int) (List S29)) : consE t (prep ws r) = prep (t :: ws) r := by
  cases r <;> rfl
theorem tk0_tks (n : Nat) {L : List UInt8} (p : Nat) (h : L ≠ []) : tk0 (n + 1) L p = if (wL L).1 = 0 then consE ⟨(wL L).2.1, (p : Int), (wL L).2.2.1, (wL L).2.2.2.1⟩ (tks n (L.drop (wL L).2.2.2.2) (p + (wL L).2.2.2.2)) else .error (p, (wL L).1) := by
  rw [tk0_cons n p h]
  by_cases c : (wL L).1 = 0
  · rw [if_pos c, if_pos c]
    unfold tks
    split
    · rfl
    · rfl
  · rw [if_neg c, if_neg c]
theorem tks_app {X : List UInt8} (hX : X.length ≤ 100000) : ∀ (n : Nat) (L : List UInt8) (m p : Nat) (l : List S29), L.length ≤ 100000 → L.length < n → L.length + 2 + X.length < m → tks n L p = .ok l →
    ∃ ws, l = ws ++ [⟨8, ((p + L.length : Nat) : Int), mkB [], mkB []⟩] ∧ tks m (L ++ 10 :: 10 :: X) p = prep ws (shift (p + L.length + 2) (tkl X))
  | 0, L, m, p, l, h0, hn, hm, h => by omega
  | n + 1, L, m, p, l, h0, hn, hm, h => by
    have hk : (skl L).1 ≤ L.length := skL_bd _ _
    have htwo : ∀ q m', X.length < m' → tks m' (10 :: 10 :: X) q = shift (q + 2) (tkl X) := fun q m' hm' => by
      rw [tks_ten, tks_ten, tks_tkl (by omega) hm']
    by_cases c1 : (skl L).2 = true
    · have hks := skl_app (10 :: X) L.length L (Nat.le_refl _) c1
      by_cases c2 : (skl L).1 < L.length
      · rw [if_pos c2] at hks
        have hM : L.drop (skl L).1 ≠ [] := by
          intro e
          have := congrArg List.length e
          rw [List.length_drop] at this
          simp only [List.length_nil] at this
          omega
        have hMl : (L.drop (skl L).1).length = L.length - (skl L).1 := List.length_drop
        have e1 : tks (n + 1) L p = tk0 (n + 1) (L.drop (skl L).1) (p + (skl L).1) := by
          unfold tks
          rw [if_pos c1]
        have e2 : tks m (L ++ 10 :: 10 :: X) p = tk0 m (L.drop (skl L).1 ++ 10 :: 10 :: X) (p + (skl L).1) := by
          unfold tks
          rw [hks, if_pos c1, drop_app hk]
        rw [e2]
        rw [e1] at h
        generalize hj : (skl L).1 = j at *
        generalize L.drop j = M at *
        obtain ⟨m', rfl⟩ : ∃ m', m = m' + 1 := ⟨m - 1, by omega⟩
        rw [tk0_tks n _ hM] at h
        rw [tk0_tks m' _ (by simp)]
        by_cases c3 : (wL M).1 = 0
        · rw [if_pos c3] at h
          obtain ⟨b1, b2, b3⟩ := wL_bd (L := M) (by omega) c3
          obtain ⟨d, h1, h2⟩ := wL_app (X := X) c3 (by omega)
          rw [h1]
          generalize wL M = w at *
          obtain ⟨a, kd, tx, nm, k⟩ := w
          unfold more
          dsimp only at *
          rw [if_pos c3]
          have hkl : (M.drop k).length = M.length - k := List.length_drop
          cases ht : tks n (M.drop k) (p + j + k) with
          | error e =>
            rw [ht] at h
            cases h
          | ok l' =>
            rw [ht] at h
            have hl := Except.ok.inj h
            rcases h2 with rfl | ⟨rfl, h2⟩
            · rw [Nat.add_zero, drop_app b2]
              obtain ⟨ws, g1, g2⟩ := tks_app hX n (M.drop k) m' (p + j + k) l' (by omega) (by omega) (by omega) ht
              refine ⟨⟨kd, ((p + j : Nat) : Int), tx, nm⟩ :: ws, ?_, ?_⟩
              · rw [← hl, g1, List.cons_append, hkl, show p + j + k + (M.length - k) = p + L.length by omega]
              · rw [g2, consE_prep, hkl, show p + j + k + (M.length - k) + 2 = p + L.length + 2 by omega]
            · have e3 : M.drop k = [] := by rw [h2, List.drop_length]
              have e4 : (M ++ 10 :: 10 :: X).drop (k + 1) = 10 :: X := by
                rw [← List.drop_drop, drop_app b2, e3]
                rfl
              rw [e3] at ht
              have e5 : tks n [] (p + j + k) = .ok [⟨8, ((p + j + k : Nat) : Int), mkB [], mkB []⟩] := by
                unfold tks
                obtain ⟨n', rfl⟩ : ∃ n', n = n' + 1 := ⟨n - 1, by omega⟩
                rw [if_pos (by rfl)]
                rfl
              rw [e5] at ht
              have hl' := Except.ok.inj ht
              refine ⟨[⟨kd, ((p + j : Nat) : Int), tx, nm⟩], ?_, ?_⟩
              · rw [← hl, ← hl', show p + j + k = p + L.length by omega]
                rfl
              · rw [e4, tks_ten, tks_tkl (by omega) (by omega), show p + j + (k + 1) + 1 = p + L.length + 2 by omega, ← consE_prep, prep_nil]
        · rw [if_neg c3] at h
          cases h
      · have hj : (skl L).1 = L.length := by omega
        rw [if_neg c2] at hks
        refine ⟨[], ?_, ?_⟩
        · unfold tks at h
          rw [if_pos c1, hj, List.drop_length] at h
          exact (Except.ok.inj h).symm
        · rw [prep_nil, ← htwo (p + L.length) m (by omega)]
          unfold tks
          rw [hks]
          simp only []
          rw [show p + (L.length + (skl (10 :: 10 :: X)).1) = p + L.length + (skl (10 :: 10 :: X)).1 by omega, ← List.drop_drop, drop_app (Nat.le_refl _), List.drop_length]
          rfl
    · unfold tks at h
      rw [if_neg c1] at h
      cases h
/-- Both texts' words. -/
theorem tkl_app {A X : List UInt8} (hA : A.length ≤ 100000) (hX : X.length ≤ 100000) {l : List S29} (h : tkl A = .ok l) : ∃ ws, l = ws ++ [⟨8, (A.length : Int), mkB [], mkB []⟩] ∧ tkl (A ++ 10 :: 10 :: X) = prep ws (shift (A.length + 2) (tkl X)) := by
  have hz : ∀ r : Except (Nat × Int) (List S29), shift 0 r = r := fun r => by
    cases r with
    | ok l =>
      simp only [shift]
      refine congrArg _ ?_
      conv => rhs; rw [← List.map_id l]
      refine List.map_congr_left fun t _ => ?_
      simp [sh]
    | error e => simp [shift]
  have e1 := tks_tkl (m := A.length + 1) (L := A) (by omega) (by omega) 0
  rw [hz, h] at e1
  obtain ⟨ws, h1, h2⟩ := tks_app hX (A.length + 1) A ((A ++ 10 :: 10 :: X).length + 1) 0 l hA (by omega) (by simp; omega) e1
  rw [Nat.zero_add] at h1 h2
  refine ⟨ws, h1, ?_⟩
  rw [← h2, tks_tkl (by simp; omega) (by omega) 0, hz]
/-- Where words stand. -/
theorem tk0_at : ∀ (n : Nat) (L : List UInt8) (p : Nat) (l : List S29), L.length ≤ 1000000 → L.length < n → tk0 n L p = .ok l → ∀ t ∈ l, 0 ≤ t.f1 ∧ t.f1 ≤ ((p + L.length : Nat) : Int)
  | 0, L, p, l, h0, hn, h => by omega
  | n + 1, L, p, l, h0, hn, h => by
    by_cases c1 : L = []
    · simp only [tk0] at h
      rw [if_pos c1] at h
      obtain rfl := Except.ok.inj h
      intro t ht
      obtain rfl := List.mem_singleton.1 ht
      simp only []
      omega
    · rw [tk0_cons n p c1] at h
      by_cases c2 : (wL L).1 = 0
      · rw [if_pos c2] at h
        obtain ⟨b1, b2, b3⟩ := wL_bd h0 c2
        have hk : (skl (L.drop (wL L).2.2.2.2)).1 ≤ (L.drop (wL L).2.2.2.2).length := skL_bd _ _
        rw [List.length_drop] at hk
        by_cases c3 : (skl (L.drop (wL L).2.2.2.2)).2 = true
        · rw [if_pos c3] at h
          have hi := tk0_at n ((L.drop (wL L).2.2.2.2).drop (skl (L.drop (wL L).2.2.2.2)).1) (p + (wL L).2.2.2.2 + (skl (L.drop (wL L).2.2.2.2)).1)
          cases ht : tk0 n ((L.drop (wL L).2.2.2.2).drop (skl (L.drop (wL L).2.2.2.2)).1) (p + (wL L).2.2.2.2 + (skl (L.drop (wL L).2.2.2.2)).1) with
          | ok l' =>
            rw [ht] at h
            obtain rfl := Except.ok.inj h
            intro t hm
            rcases List.mem_cons.1 hm with rfl | hm
            · simp only []
              omega
            · have := hi l' (by simp only [List.length_drop]; omega) (by simp only [List.length_drop]; omega) ht t hm
              simp only [List.length_drop] at this
              omega
          | error e =>
            rw [ht] at h
            cases h
        · rw [if_neg c3] at h
          cases h
      · rw [if_neg c2] at h
        cases h
theorem tkl_at {L : List UInt8} {l : List S29} (h0 : L.length ≤ 1000000) (h : tkl L = .ok l) : ∀ t ∈ l, 0 ≤ t.f1 ∧ t.f1 ≤ (L.length : Int) := by
  unfold tkl at h
  have hk : (skl L).1 ≤ L.length := skL_bd _ _
  by_cases c : (skl L).2 = true
  · rw [if_pos c] at h
    intro t ht
    have := tk0_at _ _ _ l (by rw [List.length_drop]; omega) (by rw [List.length_drop]; omega) h t ht
    rw [List.length_drop] at this
    omega
  · rw [if_neg c] at h
    cases h
end Go.Proofs.Ytholgbdfflabhaa.Tkl
end
section
/- TokenParts: words of two documents with two blanks between them are those of both. Conditions: as the statement says. -/
namespace Go.Proofs.Ytholgbdfflabhaa.Pure
open Go.RowKit Go.Proofs.YtholgbdfflabhaaW.PrintWords Go.Proofs.YtholgbdfflabhaaW.PrintMore Go.Proofs.Ytholgbdfflabhaa.Evs Go.Proofs.Ytholgbdfflabhaa.Opn Go.Proofs.Ytholgbdfflabhaa.PTk Go.Proofs.Ytholgbdfflabhaa.Giv Go.Proofs.Ytholgbdfflabhaa.Tkl

theorem p_lives_told : parterrelaw03_lives.f 40 = some true := by decide +kernel
theorem p_lives_ev : Ev (fun k => parterrelaw03_lives.f k) true := Ev.of (parterrelaw03_lives.mono) p_lives_told
theorem p_sub {a b : Nat} (h : b ≤ a) (ha : a ≤ 1000000) : wrap64 ((a : Int) - (b : Int)) = ((a - b : Nat) : Int) := by
  rw [w64 (by omega) (by omega)]
  omega
theorem p_add {a b : Nat} (ha : a ≤ 1000000) (hb : b ≤ 1000000) : wrap64 ((a : Int) + (b : Int)) = ((a + b : Nat) : Int) := by
  rw [w64 (by omega) (by omega)]
  omega
theorem p_idx {i n : Nat} (h : n ≤ i + 1) (h1 : 1 ≤ n) (hi : i ≤ 100000) (hn : n ≤ 100000) : wrap64 (wrap64 ((i : Int) - (n : Int)) + 1) = ((i + 1 - n : Nat) : Int) := by
  rw [w64 (x := (i : Int) - (n : Int)) (by omega) (by omega), w64 (by omega) (by omega)]
  omega
theorem rd_get {l : List S29} {i : Nat} (h : i < l.length) : rd_T29 l (i : Int) = l[i] := by
  unfold rd_T29
  rw [Int.toNat_natCast, List.getD_eq_getElem?_getD, List.getElem?_eq_getElem h]
  rfl
theorem same_no (a b : S29) (c : Int) (h0 : a.f0 = b.f0) (h1 : a.f1 = c) (h2 : a.f2 = b.f2) (h3 : a.f3 = b.f3) : (!(a.f0 == b.f0) || (!(a.f1 == c) || (!(a.f2.toList == b.f2.toList) || (!(a.f3.toList == b.f3.toList))))) = false := by
  rw [h0, h1, h2, h3]
  simp
section
variable {x0 : List Int} {l m all ws : List S29} {t0 : S29}
theorem parts_loop (hx : x0.length ≤ 2000) (hl : l = ws ++ [t0]) (hm : ∀ t ∈ m, 0 ≤ t.f1 ∧ t.f1 ≤ 2000) (hall : all = ws ++ m.map (sh (x0.length + 2))) (hlz : l.length ≤ 3000) (hmz : m.length ≤ 3000) : ∀ (d i : Nat), i + d = all.length → Ev (fun k => parterrelaw03_TokenParts.l0 k x0 l m all (all.length : Int) (i : Int)) true := by
  have hll : l.length = ws.length + 1 := by rw [hl]; simp
  have hal : all.length = ws.length + m.length := by rw [hall]; simp
  intro d
  induction d with
  | zero =>
    intro i hd
    refine ev_step ?_
    simp only [parterrelaw03_TokenParts.l0]
    exact ev_neg (by omega) (ev_bind_some p_lives_ev)
  | succ d ih =>
    intro i hd
    have hi : i < all.length := by omega
    have hnext := ih (i + 1) (by omega)
    have e1 : wrap64 ((l.length : Int) - 1) = ((ws.length : Nat) : Int) := by
      have := p_sub (a := l.length) (b := 1) (by omega) (by omega)
      rw [show l.length - 1 = ws.length by omega] at this
      exact this
    have e2 : wrap64 ((i : Int) + 1) = ((i + 1 : Nat) : Int) := p_add (b := 1) (by omega) (by omega)
    have e3 : wrap64 ((x0.length : Int) + 2) = ((x0.length + 2 : Nat) : Int) := p_add (b := 2) (by omega) (by omega)
    refine ev_step ?_
    by_cases c : i < ws.length
    · have g : rd_T29 all (i : Int) = rd_T29 l (i : Int) := by
        rw [rd_get hi, rd_get (by omega)]
        simp only [hall, hl, List.getElem_append_left c]
      have hs := same_no (rd_T29 l (i : Int)) (rd_T29 l (i : Int)) (rd_T29 l (i : Int)).f1 rfl rfl rfl rfl
      simp only [parterrelaw03_TokenParts.l0, e1, e2, g, hs]
      exact ev_pos (by omega) (ev_pos (by omega) (ev_pos (by omega) (ev_pos (by omega) (ev_pos (by omega) (ev_neg (by decide) hnext)))))
    · have e4 : wrap64 (wrap64 ((i : Int) - (l.length : Int)) + 1) = ((i - ws.length : Nat) : Int) := by
        rw [p_idx (by omega) (by omega) (by omega) (by omega), show i + 1 - l.length = i - ws.length by omega]
      have hj : i - ws.length < m.length := by omega
      have g : rd_T29 all (i : Int) = sh (x0.length + 2) (rd_T29 m ((i - ws.length : Nat) : Int)) := by
        rw [rd_get hi, rd_get hj]
        simp only [hall]
        rw [List.getElem_append_right (by omega), List.getElem_map]
      have hb := hm _ (List.getElem_mem hj)
      rw [← rd_get hj] at hb
      have e5 : wrap64 ((rd_T29 m ((i - ws.length : Nat) : Int)).f1 + ((x0.length + 2 : Nat) : Int)) = ((x0.length + 2 : Nat) : Int) + (rd_T29 m ((i - ws.length : Nat) : Int)).f1 := by
        generalize (rd_T29 m ((i - ws.length : Nat) : Int)).f1 = y at hb
        rw [w64 (by omega) (by omega)]
        omega
      have hs := same_no (rd_T29 all (i : Int)) (rd_T29 m ((i - ws.length : Nat) : Int)) (((x0.length + 2 : Nat) : Int) + (rd_T29 m ((i - ws.length : Nat) : Int)).f1) (by rw [g]; rfl) (by rw [g]; rfl) (by rw [g]; rfl) (by rw [g]; rfl)
      simp only [parterrelaw03_TokenParts.l0, e1, e2, e3, e4, e5, hs]
      clear e1 e2 e3 e4 e5 hs g hb
      exact ev_pos (by omega) (ev_pos (by omega) (ev_pos (by omega) (ev_neg (by omega) (ev_pos (by omega) (ev_pos (by omega) (ev_neg (by decide) hnext))))))
end
theorem TokenParts : parterrelaw03_TokenParts.Pure := by
  intro x0 x1 hx0 hx1
  refine Ev.rounds ?_
  have jt : Ev (fun k => parterrelaw03_TokenParts.j0 k x0 x1 true) true := ev_step (by
    simp only [parterrelaw03_TokenParts.j0]
    exact ev_pos (by trivial) (ev_bind_some p_lives_ev))
  simp only [parterrelaw03_TokenParts.f]
  refine ev_ite (fun _ => jt) (fun ha => ?_)
  by_cases hb : (x1.length : Int) > 2000
  · rw [decide_eq_true hb]
    exact jt
  rw [decide_eq_false hb]
  refine ev_step ?_
  have ha' : x0.length ≤ 2000 := by omega
  have hb' : x1.length ≤ 2000 := by omega
  have hnn : bytesOf (⟨#[10, 10]⟩ : ByteArray) = [10, 10] := rfl
  simp only [parterrelaw03_TokenParts.j0]
  rw [hnn]
  have hT0 := tokens_ev (l := x0) (by omega)
  have hT1 := tokens_ev (l := x1) (by omega)
  have hT := tokens_ev (l := ([] ++ x0 ++ [10, 10]) ++ x1) (by simp; omega)
  have hlst : lst (([] ++ x0 ++ [10, 10]) ++ x1) = lst x0 ++ 10 :: 10 :: lst x1 := by
    unfold lst
    simp
  rw [hlst] at hT
  refine ev_neg (by decide) (ev_bind hT0 (ev_bind hT1 (ev_let (ev_pos (by simp; omega) (ev_let (ev_pos (by simp; omega) (ev_let (ev_pos (by simp; omega) (ev_bind hT ?_)))))))))
  cases h0 : tkl (lst x0) with
  | error e =>
    have hb0 := tkl_bd (L := lst x0) (by rw [lst_len]; omega)
    rw [h0] at hb0
    exact ev_neg hb0.1 (ev_bind_some p_lives_ev)
  | ok l =>
    obtain ⟨ws, hl, happ⟩ := tkl_app (A := lst x0) (X := lst x1) (by rw [lst_len]; omega) (by rw [lst_len]; omega) h0
    rw [lst_len] at hl happ
    have hbl := tkl_bd (L := lst x0) (by rw [lst_len]; omega)
    rw [h0, lst_len] at hbl
    have hbm := tkl_bd (L := lst x1) (by rw [lst_len]; omega)
    have hat := @tkl_at (lst x1)
    rw [lst_len] at hbm hat
    rw [happ]
    refine ev_pos rfl ?_
    cases h1 : tkl (lst x1) with
    | error e =>
      rw [h1] at hbm
      obtain ⟨g1, g2⟩ := hbm
      refine ev_neg g1 (ev_pos rfl (ev_pos ?_ (ev_bind_some p_lives_ev)))
      show ((x0.length + 2 + e.1 : Nat) : Int) = wrap64 (wrap64 ((e.1 : Int) + (x0.length : Int)) + 2)
      rw [p_add (by omega) (by omega)]
      have := p_add (a := e.1 + x0.length) (b := 2) (by omega) (by omega)
      rw [show (((2 : Nat)) : Int) = 2 from rfl] at this
      rw [this]
      omega
    | ok m =>
      rw [h1] at hbm
      have hat' := hat (by omega) h1
      refine ev_pos rfl (ev_pos rfl ?_)
      show Ev (fun k => parterrelaw03_TokenParts.j1 k x0 l m (ws ++ m.map (sh (x0.length + 2))) (((ws ++ m.map (sh (x0.length + 2))).length : Int) != wrap64 (wrap64 ((l.length : Int) + (m.length : Int)) - 1))) true
      have hll : l.length = ws.length + 1 := by rw [hl]; simp
      have hlen : (ws ++ m.map (sh (x0.length + 2))).length = ws.length + m.length := by simp
      have hbl1 : l.length ≤ x0.length + 1 := hbl.2
      have hbm1 : m.length ≤ x1.length + 1 := hbm.2
      have e1 : wrap64 (wrap64 ((l.length : Int) + (m.length : Int)) - 1) = ((ws.length + m.length : Nat) : Int) := by
        rw [p_add (by omega) (by omega)]
        have := p_sub (a := l.length + m.length) (b := 1) (by omega) (by omega)
        rw [show l.length + m.length - 1 = ws.length + m.length by omega] at this
        exact this
      rw [e1, hlen]
      refine ev_step ?_
      simp only [parterrelaw03_TokenParts.j1]
      refine ev_neg (by simp) ?_
      exact parts_loop ha' hl (fun t ht => ⟨(hat' t ht).1, Int.le_trans (hat' t ht).2 (by omega)⟩) rfl (by omega) (by omega) _ 0 (Nat.zero_add _)
end Go.Proofs.Ytholgbdfflabhaa.Pure
end
section
namespace Go.Proofs.Ytholgbdfflabhaa.Giv
/-- At a row's first world the longest search is some number. -/
theorem ml_of {w : World} (h : w.ShapedOpen Try.prog) : Ml w := Try.laysM143.s1_3 w h
end Go.Proofs.Ytholgbdfflabhaa.Giv
end
