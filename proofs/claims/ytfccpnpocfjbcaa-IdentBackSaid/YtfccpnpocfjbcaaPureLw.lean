/- What is written or quoted (layer 4) is one word to the lexer, wherever it stands. Conditions: as each theorem says. -/
import Derived.Test.YtfccpnpocfjbcaaPTkx15
import Derived.Test.YtfccpnpocfjbcaaPTkx16
import Derived.Test.YtfccpnpocfjbcaaPTkx17
import Derived.Test.YtfccpnpocfjbcaaPureLx
set_option linter.unusedVariables false
set_option linter.unusedSimpArgs false
namespace Go.Proofs.Ytfccpnpocfjbcaa.PureLx
open Go.RowKit Go.Proofs.YtfccpnpocfjbcaaW.PrintWords Go.Proofs.YtfccpnpocfjbcaaW.PrintMore Go.Proofs.Ytfccpnpocfjbcaa.Evs Go.Proofs.Ytfccpnpocfjbcaa.Opn Go.Proofs.Ytfccpnpocfjbcaa.PTk Go.Proofs.Ytfccpnpocfjbcaa.Giv

section
variable {s : ByteArray} {i : Nat} {c : UInt8} {r : ByteArray} {l : List UInt8}
theorem sub_one (hs : s.size ≤ 1000000) (hc : s.data.toList[i]? = some c) : (s.extract ((i : Int)).toNat (wrap64 ((i : Int) + 1)).toNat).data.toList = [c] := by
  have hi := (bt_list hc).1
  rw [w64 (by omega) (by omega), (by omega : ((i : Int) + 1).toNat = i + 1), Int.toNat_natCast, ByteArray.data_extract, Array.toList_extract, List.extract_eq_take_drop, (by omega : i + 1 - i = 1)]
  obtain ⟨h1, h2⟩ := List.getElem?_eq_some_iff.1 hc
  rw [List.drop_eq_getElem_cons h1, h2]
  simp
theorem app_list (a b : ByteArray) : (a ++ b).data.toList = a.data.toList ++ b.data.toList := by simp
/-- A piece: the byte itself; its number; or a backslash and the byte. -/
inductive Pc (c : UInt8) (r : ByteArray) (P : Prop) : Prop
  | plain (h : r.data.toList = [c]) (hp : P)
  | esc (h : ident_escaped.f (c.toNat : Int) = some r) (h128 : (c.toNat : Int) < 128)
  | other (h : r.data.toList = [92, c]) (ho : fineO (c.toNat : Int) = true)
theorem write_one (hs : s.size ≤ 1000000) (hc : s.data.toList[i]? = some c) (h : ident_Write.one s (i : Int) = some r) :
    Pc c r (token_lexer_ident_1.f (c.toNat : Int) = some true ∧ (fineL (c.toNat : Int) = true ∧ token_Letter.f (c.toNat : Int) = some true ∨ (c = 45 ∧ 1 < s.size) ∨ (ident_digit.f (c.toNat : Int) = some true ∧ ident_Write.first s (i : Int) = false))) := by
  have tc := told c
  obtain ⟨t1, t2, t3, t4, e1, e2, e3, e4⟩ := tc.ex
  unfold ident_Write.one at h
  rw [(bt_list hc).2, e1, e2, e3, e4] at h
  replace h := Option.some.inj h
  have hsub := sub_one hs hc
  by_cases c1 : t1 = true
  · rw [if_pos c1] at h
    subst c1
    have hl := tc.letter e1
    have hl' := hl
    simp only [fineL, Bool.and_eq_true, beq_iff_eq] at hl'
    exact Pc.plain (by rw [← h]; exact hsub) ⟨hl'.1, Or.inl ⟨hl, e1⟩⟩
  · rw [if_neg c1] at h
    by_cases c2 : (c.toNat : Int) = 45 ∧ 1 < (s.size : Int)
    · rw [if_pos c2] at h
      have hc45 : c = 45 := UInt8.toNat_inj.1 (by have := c2.1; show c.toNat = 45; omega)
      refine Pc.plain (by rw [← h]; exact hsub) ⟨?_, Or.inr (Or.inl ⟨hc45, by omega⟩)⟩
      subst hc45
      decide
    · rw [if_neg c2] at h
      by_cases c3 : t2 = true ∧ ident_Write.first s (i : Int) = false
      · rw [if_pos c3] at h
        have e2' := e2
        rw [c3.1] at e2'
        exact Pc.plain (by rw [← h]; exact hsub) ⟨tc.digit e2', Or.inr (Or.inr ⟨e2', c3.2⟩)⟩
      · rw [if_neg c3] at h
        by_cases c4 : t2 = true
        · rw [if_pos c4] at h
          exact Pc.esc (by rw [← h]; exact e4) (tc.d128 (by rw [e2, c4]))
        · rw [if_neg c4] at h
          by_cases c5 : t3 = true
          · rw [if_pos c5] at h
            exact Pc.esc (by rw [← h]; exact e4) (tc.c128 (by rw [e3, c5]))
          · rw [if_neg c5] at h
            refine Pc.other ?_ (tc.other (by rw [e1]; simpa using c1) (by rw [e2]; simpa using c4) (by rw [e3]; simpa using c5))
            rw [← h, app_list]
            show [92] ++ (ident_Write.sub s (i : Int)).data.toList = _
            rw [show (ident_Write.sub s (i : Int)).data.toList = [c] from hsub]
            rfl
theorem quote_one (hs : s.size ≤ 1000000) (hc : s.data.toList[i]? = some c) (h : ident_Quote.one s (i : Int) = some r) :
    Pc c r (token_feed.f (c.toNat : Int) = some false ∧ (c.toNat : Int) ≠ 34 ∧ (c.toNat : Int) ≠ 92) := by
  have tc := told c
  obtain ⟨t1, t2, t3, t4, e1, e2, e3, e4⟩ := tc.ex
  unfold ident_Quote.one at h
  rw [(bt_list hc).2, e3, e4] at h
  replace h := Option.some.inj h
  have hsub := sub_one hs hc
  have o34 : fineO 34 = true := by decide
  have o92 : fineO 92 = true := by decide
  by_cases c1 : t3 = true
  · rw [if_pos c1] at h
    exact Pc.esc (by rw [← h]; exact e4) (tc.c128 (by rw [e3, c1]))
  · rw [if_neg c1] at h
    by_cases c2 : (c.toNat : Int) = 34
    · rw [if_pos c2] at h
      refine Pc.other ?_ (by rw [c2]; exact o34)
      rw [← h, app_list]
      show [92] ++ (ident_Quote.sub s (i : Int)).data.toList = _
      rw [show (ident_Quote.sub s (i : Int)).data.toList = [c] from hsub]
      rfl
    · rw [if_neg c2] at h
      by_cases c3 : (c.toNat : Int) = 92
      · rw [if_pos c3] at h
        refine Pc.other ?_ (by rw [c3]; exact o92)
        rw [← h, app_list]
        show [92] ++ (ident_Quote.sub s (i : Int)).data.toList = _
        rw [show (ident_Quote.sub s (i : Int)).data.toList = [c] from hsub]
        rfl
      · rw [if_neg c3] at h
        exact Pc.plain (by rw [← h]; exact hsub) ⟨tc.feed (by rw [e3]; simpa using c1), c2, c3⟩
end
/-- The pieces stand one behind the other. -/
theorem write_pre (s : ByteArray) : ∀ (n : Nat) {i : Nat} {c l : List UInt8}, i ≤ n → ident_Write.cat s i = some c → ident_Write.cat s n = some l → ∃ rest, l = c ++ rest
  | 0, i, c, l, hi, hc, hl => by
    obtain rfl : i = 0 := by omega
    rw [hc] at hl
    exact ⟨[], by rw [Option.some.inj hl]; simp⟩
  | n + 1, i, c, l, hi, hc, hl => by
    by_cases h : i = n + 1
    · subst h
      rw [hc] at hl
      exact ⟨[], by rw [Option.some.inj hl]; simp⟩
    · obtain ⟨c', r, h1, h2, h3, h4⟩ := ident_Write.cat_lt s hl (Nat.lt_succ_self n)
      obtain ⟨rest, hr⟩ := write_pre s n (by omega) hc h1
      rw [h4] at hl
      exact ⟨rest ++ r.data.toList, by rw [← Option.some.inj hl, hr, List.append_assoc]⟩
theorem quote_pre (s : ByteArray) : ∀ (n : Nat) {i : Nat} {c l : List UInt8}, i ≤ n → ident_Quote.cat s i = some c → ident_Quote.cat s n = some l → ∃ rest, l = c ++ rest
  | 0, i, c, l, hi, hc, hl => by
    obtain rfl : i = 0 := by omega
    rw [hc] at hl
    exact ⟨[], by rw [Option.some.inj hl]; simp⟩
  | n + 1, i, c, l, hi, hc, hl => by
    by_cases h : i = n + 1
    · subst h
      rw [hc] at hl
      exact ⟨[], by rw [Option.some.inj hl]; simp⟩
    · obtain ⟨c', r, h1, h2, h3, h4⟩ := ident_Quote.cat_lt s hl (Nat.lt_succ_self n)
      obtain ⟨rest, hr⟩ := quote_pre s n (by omega) hc h1
      rw [h4] at hl
      exact ⟨rest ++ r.data.toList, by rw [← Option.some.inj hl, hr, List.append_assoc]⟩
theorem take_next {α : Type} {x : List α} {i : Nat} {c : α} (h : x[i]? = some c) : x.take i ++ [c] = x.take (i + 1) := by
  obtain ⟨h1, h2⟩ := List.getElem?_eq_some_iff.1 h
  rw [List.take_succ_eq_append_getElem h1, h2]
section
variable {T s : ByteArray} {P : Nat} {l : List UInt8}
/-- What was written is taken as what it means. -/
theorem write_ident (hT : T.size ≤ 1000000) (hs : s.size ≤ 1000) (h0 : ∀ c ∈ s.data.toList, c ≠ 0) (hl : ident_Write.cat s s.size = some l) (ha : At T P l) (he : isF token_lexer_ident_1.f T (P + l.length) = some false) (he2 : P + l.length < T.size → bt T ((P + l.length : Nat) : Int) ≠ 92) :
    ∀ (d i : Nat), s.size - i = d → i ≤ s.size → ∀ c, ident_Write.cat s i = some c → Ev (fun k => identF k T (P + c.length) (s.data.toList.take i)) (s.data.toList, P + l.length) := by
  intro d
  induction d with
  | zero =>
    intro i hd hi c hc
    obtain rfl : i = s.size := by omega
    rw [hl] at hc
    obtain rfl := Option.some.inj hc
    rw [List.take_of_length_le (by rw [data_length]; exact Nat.le_refl _)]
    exact id_end hT he he2
  | succ d ih =>
    intro i hd hi c hc
    obtain ⟨c', r, h1, h2, h3, h4⟩ := ident_Write.cat_lt s hl (show i < s.size by omega)
    rw [hc] at h1
    obtain rfl := Option.some.inj h1
    obtain ⟨rest, hr⟩ := write_pre s s.size (show i + 1 ≤ s.size by omega) h4 hl
    have ha2 : At T (P + c.length) (r.data.toList ++ rest) := by
      refine At.right (A := c) ?_
      rw [← List.append_assoc, ← hr]
      exact ha
    have hlen : i < s.data.toList.length := by rw [data_length]; omega
    obtain ⟨x, hx⟩ : ∃ x, s.data.toList[i]? = some x := ⟨_, List.getElem?_eq_getElem hlen⟩
    have hx0 : x ≠ 0 := h0 x (List.mem_of_getElem? hx)
    have hn := ih (i + 1) (by omega) (by omega) _ h4
    rw [List.length_append, ← Nat.add_assoc, ← take_next hx] at hn
    have hacc : (s.data.toList.take i).length ≤ 1000 := by rw [List.length_take, data_length]; omega
    have hsz := ha2.left.size
    rcases write_one (by omega) hx h2 with ⟨hp, hq, _⟩ | ⟨hp, h128⟩ | ⟨hp, ho⟩
    · rw [hp] at ha2 hn
      exact id_plain hq ha2 (by omega) hn
    · obtain ⟨hex, g, L, hgl, hg0⟩ := hexE hT hp hx0 h128 ha2.left
      have hz : r.size = r.data.toList.length := (data_length r).symm
      rw [hgl] at ha2
      refine id_esc (n := r.size) ha2 hg0 hex ?_ (by rw [hz]; exact hsz) (by have : (⟨#[x]⟩ : ByteArray).size = 1 := rfl; omega) ?_
      · rw [hz, hgl]
        simp
      · rw [hz]
        exact hn
    · have ho' := ho
      simp only [fineO, Bool.and_eq_true, beq_iff_eq, decide_eq_true_eq] at ho'
      rw [hp] at ha2 hn hsz
      exact id_esc (n := 2) ha2 hx0 (hexO hT ha2.left ho) (by decide) hsz (by have : (⟨#[x]⟩ : ByteArray).size = 1 := rfl; omega) hn
theorem quote_ident (hT : T.size ≤ 1000000) (hs : s.size ≤ 10000) (h0 : ∀ c ∈ s.data.toList, c ≠ 0) (hl : ident_Quote.cat s s.size = some l) (ha : At T P (l ++ [34])) :
    ∀ (d i : Nat), s.size - i = d → i ≤ s.size → ∀ c, ident_Quote.cat s i = some c → Ev (fun k => quotF k T (P + c.length) (s.data.toList.take i) 34) (s.data.toList, P + l.length + 1) := by
  intro d
  induction d with
  | zero =>
    intro i hd hi c hc
    obtain rfl : i = s.size := by omega
    rw [hl] at hc
    obtain rfl := Option.some.inj hc
    rw [List.take_of_length_le (by rw [data_length]; exact Nat.le_refl _)]
    exact q_end ha.right rfl
  | succ d ih =>
    intro i hd hi c hc
    obtain ⟨c', r, h1, h2, h3, h4⟩ := ident_Quote.cat_lt s hl (show i < s.size by omega)
    rw [hc] at h1
    obtain rfl := Option.some.inj h1
    obtain ⟨rest, hr⟩ := quote_pre s s.size (show i + 1 ≤ s.size by omega) h4 hl
    have ha2 : At T (P + c.length) (r.data.toList ++ rest) := by
      refine At.right (A := c) ?_
      rw [← List.append_assoc, ← hr]
      exact ha.left
    have hlen : i < s.data.toList.length := by rw [data_length]; omega
    obtain ⟨x, hx⟩ : ∃ x, s.data.toList[i]? = some x := ⟨_, List.getElem?_eq_getElem hlen⟩
    have hx0 : x ≠ 0 := h0 x (List.mem_of_getElem? hx)
    have hn := ih (i + 1) (by omega) (by omega) _ h4
    rw [List.length_append, ← Nat.add_assoc, ← take_next hx] at hn
    have hacc : (s.data.toList.take i).length ≤ 10000 := by rw [List.length_take, data_length]; omega
    have hsz := ha2.left.size
    rcases quote_one (by omega) hx h2 with ⟨hp, hq, h34, h92⟩ | ⟨hp, h128⟩ | ⟨hp, ho⟩
    · rw [hp] at ha2 hn
      refine q_plain hq hx0 ?_ h34 ha2 (by omega) hn
      rintro rfl
      exact h92 rfl
    · obtain ⟨hex, g, L, hgl, hg0⟩ := hexE hT hp hx0 h128 ha2.left
      have hz : r.size = r.data.toList.length := (data_length r).symm
      rw [hgl] at ha2
      refine q_esc (n := r.size) ha2 hg0 (by decide) hex ?_ (by rw [hz]; exact hsz) (by have : (⟨#[x]⟩ : ByteArray).size = 1 := rfl; omega) ?_
      · rw [hz, hgl]
        simp
      · rw [hz]
        exact hn
    · have ho' := ho
      simp only [fineO, Bool.and_eq_true, beq_iff_eq, decide_eq_true_eq] at ho'
      rw [hp] at ha2 hn hsz
      exact q_esc (n := 2) ha2 hx0 (by decide) (hexO hT ha2.left ho) (by decide) hsz (by have : (⟨#[x]⟩ : ByteArray).size = 1 := rfl; omega) hn
/-- How what was written begins: no number, an identifier, no blank. -/
theorem write_head (hT : T.size ≤ 1000000) (hs : s.size ≤ 1000) (hs0 : 0 < s.size) (h0 : ∀ c ∈ s.data.toList, c ≠ 0) (hl : ident_Write.cat s s.size = some l) (ha : At T P l) :
    ∃ c L, l = c :: L ∧ token_blank.f (c.toNat : Int) = some false ∧ c ≠ 47 ∧ number_Scan.f (T.extract P T.size) = some 0 ∧ Ev (fun k => begF k T P) true := by
  have piece : ∀ i, i < s.size → ∃ x r c, s.data.toList[i]? = some x ∧ x ≠ 0 ∧ ident_Write.cat s i = some c ∧ ident_Write.one s (i : Int) = some r ∧ ident_Write.cat s (i + 1) = some (c ++ r.data.toList) ∧ ∃ rest, l = c ++ (r.data.toList ++ rest) := fun i hi => by
    obtain ⟨c, r, h1, h2, h3, h4⟩ := ident_Write.cat_lt s hl hi
    obtain ⟨rest, hr⟩ := write_pre s s.size (show i + 1 ≤ s.size by omega) h4 hl
    have hlen : i < s.data.toList.length := by rw [data_length]; omega
    exact ⟨_, r, c, List.getElem?_eq_getElem hlen, h0 _ (List.getElem_mem hlen), h1, h2, h4, rest, by rw [hr, List.append_assoc]⟩
  have n92 : NoNum 92 := ⟨by decide, by decide⟩
  obtain ⟨x, r, c, hx, hx0, hc, h2, h4, rest, hr⟩ := piece 0 hs0
  obtain rfl := Option.some.inj hc
  rw [List.nil_append] at hr
  rw [hr] at ha
  rw [hr]
  rcases write_one (by omega) hx h2 with ⟨hp, hq, hcase⟩ | ⟨hp, h128⟩ | ⟨hp, ho⟩
  · rw [hp] at ha
    rw [hp]
    rcases hcase with ⟨hfl, hlet⟩ | ⟨rfl, h1⟩ | ⟨_, hfirst⟩
    · simp only [fineL, Bool.and_eq_true, beq_iff_eq, decide_eq_true_eq] at hfl
      obtain ⟨_, g45, gb, gf, gd, g43, g46, g47, g34, g39, g92⟩ := hfl
      have ne : ∀ {n : Nat} (h : n < 256), (x.toNat : Int) ≠ (n : Int) → x ≠ UInt8.ofNat n := fun {n} h h1 e => h1 (by rw [e]; simp [Nat.mod_eq_of_lt h])
      refine ⟨x, rest, rfl, gb, ne (by decide) g47, scan0 hT ha ⟨gd, ne (by decide) g46⟩ (ne (by decide) g43) (fun e => absurd e (ne (by decide) g45)), beg_letter ha (ne (by decide) g45) hlet⟩
    · obtain ⟨y, r1, c1, hy, hy0, hc1, h21, h41, rest1, hr1⟩ := piece 1 h1
      rw [h4] at hc1
      obtain rfl := Option.some.inj hc1
      rw [hr, hp] at hr1
      have hrr : rest = r1.data.toList ++ rest1 := by simpa using hr1
      rw [hrr] at ha
      rw [hrr]
      have first1 : ident_Write.first s ((1 : Nat) : Int) = true := by
        unfold ident_Write.first
        have : bt s ((0 : Nat) : Int) = 45 := (bt_list hx).2
        rw [show bt s 0 = 45 from this]
        rfl
      have fin : ∀ (g : UInt8) (L' : List UInt8), r1.data.toList ++ rest1 = g :: L' → NoNum g → Ev (fun k => begF k T P) true →
          ∃ c L, [45] ++ (r1.data.toList ++ rest1) = c :: L ∧ token_blank.f (c.toNat : Int) = some false ∧ c ≠ 47 ∧ number_Scan.f (T.extract P T.size) = some 0 ∧ Ev (fun k => begF k T P) true := fun g L' e hg hb => by
        refine ⟨45, r1.data.toList ++ rest1, rfl, by decide, by decide, scan0 hT ha ⟨by decide, by decide⟩ (by decide) (fun _ => ⟨g, L', e, hg⟩), hb⟩
      rcases write_one (by omega) hy h21 with ⟨hp1, hq1, hcase1⟩ | ⟨hp1, h1281⟩ | ⟨hp1, ho1⟩
      · have ha' := ha
        rw [hp1] at ha'
        rcases hcase1 with ⟨hfl, hlet⟩ | ⟨rfl, _⟩ | ⟨_, hfirst⟩
        · simp only [fineL, Bool.and_eq_true, beq_iff_eq, decide_eq_true_eq] at hfl
          obtain ⟨_, g45, gb, gf, gd, g43, g46, g47, g34, g39, g92⟩ := hfl
          have ne : ∀ {n : Nat} (h : n < 256), (y.toNat : Int) ≠ (n : Int) → y ≠ UInt8.ofNat n := fun {n} h h1 e => h1 (by rw [e]; simp [Nat.mod_eq_of_lt h])
          exact fin y rest1 (by rw [hp1]; rfl) ⟨gd, ne (by decide) g46⟩ (beg_minus ha' (Or.inr ⟨ne (by decide) g45, hlet⟩))
        · exact fin 45 rest1 (by rw [hp1]; rfl) ⟨by decide, by decide⟩ (beg_minus ha' (Or.inl rfl))
        · rw [first1] at hfirst
          cases hfirst
      · have ha1 : At T (P + 1) (r1.data.toList ++ rest1) := ha.tail
        obtain ⟨hex, g, L, hgl, hg0⟩ := hexE hT hp1 hy0 h1281 ha1.left
        have ha' := ha
        rw [hgl] at ha'
        have hz : r1.size = r1.data.toList.length := (data_length r1).symm
        exact fin 92 (g :: L ++ rest1) (by rw [hgl]; rfl) n92 (beg_minus_esc ha' hg0 hex (by rw [hz, hgl]; simp; omega))
      · have ha1 : At T (P + 1) (r1.data.toList ++ rest1) := ha.tail
        have ha' := ha
        rw [hp1] at ha' ha1
        exact fin 92 (y :: rest1) (by rw [hp1]; rfl) n92 (beg_minus_esc ha' hy0 (hexO hT ha1.left ho1) (by decide))
    · have : ident_Write.first s ((0 : Nat) : Int) = true := rfl
      rw [this] at hfirst
      cases hfirst
  · obtain ⟨hex, g, L, hgl, hg0⟩ := hexE hT hp hx0 h128 ha.left
    rw [hgl] at ha
    rw [hgl]
    have hz : r.size = r.data.toList.length := (data_length r).symm
    exact ⟨92, g :: L ++ rest, rfl, by decide, by decide, scan0 hT ha n92 (by decide) (fun e => absurd e (by decide)), beg_esc ha hg0 hex (by rw [hz, hgl]; simp; omega)⟩
  · rw [hp] at ha
    rw [hp]
    exact ⟨92, x :: rest, rfl, by decide, by decide, scan0 hT ha n92 (by decide) (fun e => absurd e (by decide)), beg_esc ha hx0 (hexO hT ha.left ho) (by decide)⟩
end

/-! ### The whole text's words -/
theorem mk_size (l : List UInt8) : (⟨l.toArray⟩ : ByteArray).size = l.length := by
  show l.toArray.size = l.length
  rw [List.size_toArray]
theorem mk_list (s : ByteArray) : (⟨s.data.toList.toArray⟩ : ByteArray) = s := by
  apply Go.WideShapes.bytes_inj
  simp
def quoted (l : List UInt8) : ByteArray := ((⟨#[34]⟩ : ByteArray) ++ ⟨l.toArray⟩) ++ (⟨#[34]⟩ : ByteArray)
theorem quoted_list (l : List UInt8) : (quoted l).data.toList = 34 :: (l ++ [34]) := by
  unfold quoted
  rw [app_list, app_list]
  rfl
theorem quoted_size (l : List UInt8) : (quoted l).size = l.length + 2 := by
  rw [← data_length, quoted_list]
  simp
theorem ident_lives : parterrelaw04_lives.f = some true := by
  unfold parterrelaw04_lives.f
  simp only [ByteArray.toList_eq]
  have e1 : ident_Write.f (⟨#[49, 97]⟩ : ByteArray) = some ⟨#[92, 51, 49, 32, 97]⟩ := by decide +kernel
  have e2 : ident_Write.f (⟨#[97, 32, 98]⟩ : ByteArray) = some ⟨#[97, 92, 32, 98]⟩ := by decide +kernel
  have e3 : ident_Quote.f (⟨#[97, 34, 98]⟩ : ByteArray) = some ⟨#[34, 97, 92, 34, 98, 34]⟩ := by decide +kernel
  rw [e1, e2, e3]
  rfl
theorem ev_cast' {f : Nat → Bool → Option Bool} {a b : Bool} {r : Bool} (h : a = b) (k : Ev (fun n => f n b) r) : Ev (fun n => f n a) r := h ▸ k
theorem no_zero {s : ByteArray} (h : Lib.indexByte s.data.toList 0 < 0) : ∀ c ∈ s.data.toList, c ≠ 0 := by
  rintro c hc rfl
  have h1 : Lib.indexByte s.data.toList 0 = -1 := by
    have := Lib.indexByte_ge s.data.toList 0
    omega
  obtain ⟨i, hi⟩ := List.mem_iff_getElem?.1 hc
  exact Lib.indexByte_none h1 i hi
theorem name_cases (s : ByteArray) : (ident_Name.f s = some true ∧ 0 < s.size ∧ s.size ≤ 64 ∧ ∀ c ∈ s.data.toList, c ≠ 0) ∨ ident_Name.f s = some false := by
  unfold ident_Name.f
  rw [ByteArray.toList_eq]
  by_cases h1 : s.data.toList = []
  · rw [if_pos h1]
    exact Or.inr rfl
  · rw [if_neg h1]
    by_cases h2 : (s.size : Int) ≤ 64
    · rw [if_pos h2]
      show ((some (decide (Lib.indexByte s.data.toList 0 < 0)) = some true) ∧ _) ∨ (some (decide (Lib.indexByte s.data.toList 0 < 0)) = some false)
      by_cases h3 : Lib.indexByte s.data.toList 0 < 0
      · refine Or.inl ⟨by rw [decide_eq_true h3], ?_, by omega, no_zero h3⟩
        rcases Nat.eq_zero_or_pos s.size with h | h
        · exact absurd (List.eq_nil_of_length_eq_zero (by rw [data_length]; exact h)) h1
        · exact h
      · exact Or.inr (by rw [decide_eq_false h3])
    · rw [if_neg h2]
      exact Or.inr rfl
theorem pc_size {c : UInt8} {r : ByteArray} {P : Prop} (h : Pc c r P) : r.size ≤ 8 := by
  rw [← data_length]
  rcases h with ⟨h, _⟩ | ⟨h, _⟩ | ⟨h, _⟩
  · rw [h]
    simp
  · rcases esc_cases (told c).esc h with ⟨_, e, _⟩ | ⟨_, _, _, _, e, _⟩
    · rw [e]
      simp
    · rw [e]
      simp
  · rw [h]
    simp
theorem write_cat (s : ByteArray) (hs : s.size ≤ 1000000) : ∀ n, n ≤ s.size → ∃ l, ident_Write.cat s n = some l
  | 0, _ => ⟨[], rfl⟩
  | n + 1, h => by
    obtain ⟨c, hc⟩ := write_cat s hs n (by omega)
    have hlen : n < s.data.toList.length := by rw [data_length]; omega
    have hx := List.getElem?_eq_getElem hlen
    obtain ⟨t1, t2, t3, t4, e1, e2, e3, e4⟩ := (told (s.data.toList[n])).ex
    obtain ⟨r, hr⟩ : ∃ r, ident_Write.one s (n : Int) = some r := by
      unfold ident_Write.one
      rw [(bt_list hx).2, e1, e2, e3, e4]
      exact ⟨_, rfl⟩
    refine ⟨c ++ r.data.toList, ?_⟩
    simp only [ident_Write.cat]
    rw [hc]
    show (ident_Write.one s (n : Int)).bind _ = _
    rw [hr]
    exact if_pos (pc_size (write_one hs hx hr))
theorem quote_cat (s : ByteArray) (hs : s.size ≤ 1000000) : ∀ n, n ≤ s.size → ∃ l, ident_Quote.cat s n = some l
  | 0, _ => ⟨[], rfl⟩
  | n + 1, h => by
    obtain ⟨c, hc⟩ := quote_cat s hs n (by omega)
    have hlen : n < s.data.toList.length := by rw [data_length]; omega
    have hx := List.getElem?_eq_getElem hlen
    obtain ⟨t1, t2, t3, t4, e1, e2, e3, e4⟩ := (told (s.data.toList[n])).ex
    obtain ⟨r, hr⟩ : ∃ r, ident_Quote.one s (n : Int) = some r := by
      unfold ident_Quote.one
      rw [(bt_list hx).2, e3, e4]
      exact ⟨_, rfl⟩
    refine ⟨c ++ r.data.toList, ?_⟩
    simp only [ident_Quote.cat]
    rw [hc]
    show (ident_Quote.one s (n : Int)).bind _ = _
    rw [hr]
    exact if_pos (pc_size (quote_one hs hx hr))
theorem quote_len (s : ByteArray) {l : List UInt8} (hl : ident_Quote.cat s s.size = some l) : l.length ≤ s.size * 8 := ident_Quote.cat_len s _ _ hl
theorem quote_form (s : ByteArray) (hs : s.size ≤ 8192) : ident_Quote.f s = some ⟨#[]⟩ ∨ ∃ l, (∀ c ∈ s.data.toList, c ≠ 0) ∧ ident_Quote.cat s s.size = some l ∧ ident_Quote.f s = some (quoted l) := by
  unfold ident_Quote.f
  rw [if_neg (by omega)]
  by_cases h : Lib.indexByte s.data.toList 0 ≥ 0
  · refine Or.inl ?_
    show (if Lib.indexByte s.data.toList 0 ≥ 0 then _ else _) = _
    rw [if_pos h]
  · obtain ⟨l, hl⟩ := quote_cat s (by omega) s.size (Nat.le_refl _)
    refine Or.inr ⟨l, no_zero (by omega), hl, ?_⟩
    show (if Lib.indexByte s.data.toList 0 ≥ 0 then some (⟨#[]⟩ : ByteArray) else (ident_Quote.cat s s.size).bind fun l => some (((⟨#[34]⟩ : ByteArray) ++ ⟨l.toArray⟩) ++ (⟨#[34]⟩ : ByteArray))) = _
    rw [if_neg h, hl]
    rfl
theorem written_tokens {s : ByteArray} {l : List UInt8} (hs : s.size ≤ 1000) (h1 : 0 < s.size) (h64 : s.size ≤ 64) (h0 : ∀ c ∈ s.data.toList, c ≠ 0) (hl : ident_Write.cat s s.size = some l) :
    Ev (fun k => token_Tokens.f k (bytesOf (⟨l.toArray⟩ : ByteArray))) ([] ++ [(⟨1, ((0 : Nat) : Int), s, ⟨#[]⟩⟩ : S33)] ++ [⟨8, ((⟨l.toArray⟩ : ByteArray).size : Int), ⟨#[]⟩, ⟨#[]⟩⟩], (0 : Int), (0 : Int)) := by
  have hlen := ident_Write.cat_len s _ _ hl
  have hT := mk_size l
  have ha : At (⟨l.toArray⟩ : ByteArray) 0 l := ⟨[], [], by simp, rfl⟩
  generalize (⟨l.toArray⟩ : ByteArray) = T at hT ha ⊢
  obtain ⟨c, L, hcl, hb, h47, hsc, hbg⟩ := write_head (by omega) hs h1 h0 hl ha
  have hi := write_ident (by omega) hs h0 hl ha (by rw [Nat.zero_add, ← hT]; exact is_end _) (by omega) s.size 0 rfl (Nat.zero_le _) [] rfl
  simp only [Nat.zero_add, List.length_nil, List.take_zero] at hi
  rw [← hT] at hi
  have hac := ha
  rw [hcl] at hac
  refine tokens_ev (i := 0) (by omega) (sk_stop hac hb h47) (Nat.zero_le _) (tk_step hac.get.1 (by decide) (w_ident (l := s.data.toList) (j := T.size) hac hsc hbg hi (by rw [data_length]; exact h64) (Nat.le_refl _) (is_end _)) (Nat.le_refl _) sk_end (Nat.le_refl _) ?_)
  rw [mk_list]
  exact tk_end
theorem quoted_tokens {s : ByteArray} {l : List UInt8} (hs : s.size ≤ 8192) (h0 : ∀ c ∈ s.data.toList, c ≠ 0) (hl : ident_Quote.cat s s.size = some l) :
    Ev (fun k => token_Tokens.f k (bytesOf (quoted l))) ([] ++ [(⟨6, ((0 : Nat) : Int), s, ⟨#[]⟩⟩ : S33)] ++ [⟨8, ((quoted l).size : Int), ⟨#[]⟩, ⟨#[]⟩⟩], (0 : Int), (0 : Int)) := by
  have hlen := ident_Quote.cat_len s _ _ hl
  have hT := quoted_size l
  have ha : At (quoted l) 0 (34 :: (l ++ [34])) := ⟨[], [], by rw [quoted_list]; simp, rfl⟩
  generalize quoted l = T at hT ha ⊢
  have hi := quote_ident (by omega) (by omega) h0 hl (P := 1) ha.tail s.size 0 rfl (Nat.zero_le _) [] rfl
  have e : 1 + l.length + 1 = T.size := by omega
  rw [e] at hi
  have n34 : NoNum 34 := ⟨by decide, by decide⟩
  refine tokens_ev (i := 0) (by omega) (sk_stop ha (by decide) (by decide)) (Nat.zero_le _) (tk_step ha.get.1 (by decide) (w_quote (l := s.data.toList) (j := T.size) ha (scan0 (by omega) ha n34 (by decide) (fun e => absurd e (by decide))) (beg_no (by omega) ha (by decide) (by decide) (by decide)) hi (by rw [data_length]; exact hs) (Nat.le_refl _)) (Nat.le_refl _) sk_end (Nat.le_refl _) ?_)
  rw [mk_list]
  exact tk_end
end Go.Proofs.Ytfccpnpocfjbcaa.PureLx
