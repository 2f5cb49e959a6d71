/- LineFoursCardSaid, part 12 of 13: contracts of the program's functions, the words that they use, and the plain laws on what they compute. Conditions: none beyond what the statements say. -/
import Derived.Test.YtofdhdafabmhmaaDoorKL40
import Derived.Test.YtofdhdafabmhmaaDoorKL43
import Derived.Test.YtofdhdafabmhmaaDoorKL44
import Derived.Test.YtofdhdafabmhmaaDoorKL45
import Derived.Test.YtofdhdafabmhmaaDoorKL49
import Derived.Test.YtofdhdafabmhmaaDoorKL46
import Derived.Test.YtofdhdafabmhmaaDoorKL41
import Derived.Lib.IndexLaws
import Derived.Test.YtofdhdafabmhmaaDoorKL47
import Derived.Lib.ItoaNum
set_option linter.unusedVariables false
set_option linter.unusedSimpArgs false
section
/- Texts as the lexer reads them: escapes, identifiers, quoted texts, at any place of any text. Conditions: as each theorem says. -/
namespace Go.Proofs.YtofdhdafabmhmaaDoor.PureLx
open Go.RowKit Go.Proofs.YtofdhdafabmhmaaDoorW.PrintWords Go.Proofs.YtofdhdafabmhmaaDoorW.PrintMore Go.Proofs.YtofdhdafabmhmaaDoor.Evs Go.Proofs.YtofdhdafabmhmaaDoor.Opn Go.Proofs.YtofdhdafabmhmaaDoor.PLf4 Go.Proofs.YtofdhdafabmhmaaDoor.Giv

/-! ### Bytes at a place -/
def At (T : ByteArray) (p : Nat) (L : List UInt8) : Prop := ∃ pre post, T.data.toList = pre ++ (L ++ post) ∧ pre.length = p
section
variable {T : ByteArray} {p : Nat} {c : UInt8} {A B L : List UInt8}
theorem bt_list {s : ByteArray} {i : Nat} (h : s.data.toList[i]? = some c) : i < s.size ∧ bt s (i : Int) = (c.toNat : Int) := by
  obtain ⟨h1, h2⟩ := List.getElem?_eq_some_iff.1 h; have h3 : i < s.size := by rw [data_length] at h1; exact h1
  refine ⟨h3, ?_⟩
  rw [← bt_at s (i : Int) (by simpa using h3), ← h2]; simp
  rfl
theorem At.get (h : At T p (c :: L)) : p < T.size ∧ bt T (p : Int) = (c.toNat : Int) := by
  obtain ⟨pre, post, he, rfl⟩ := h; refine bt_list ?_
  rw [he, List.getElem?_append_right (Nat.le_refl _), Nat.sub_self]; rfl
theorem At.tail (h : At T p (c :: L)) : At T (p + 1) L := by
  obtain ⟨pre, post, he, rfl⟩ := h; exact ⟨pre ++ [c], post, by rw [he]; simp, by simp⟩
theorem At.left (h : At T p (A ++ B)) : At T p A := by
  obtain ⟨pre, post, he, rfl⟩ := h; exact ⟨pre, B ++ post, by rw [he]; simp, rfl⟩
theorem At.right (h : At T p (A ++ B)) : At T (p + A.length) B := by
  obtain ⟨pre, post, he, rfl⟩ := h; exact ⟨pre ++ A, post, by rw [he]; simp, by simp⟩
theorem At.size (h : At T p L) : p + L.length ≤ T.size := by
  obtain ⟨pre, post, he, rfl⟩ := h; rw [← data_length, he]; simp only [List.length_append]; omega
theorem At.ext (h : At T p L) : At (T.extract p T.size) 0 L := by
  obtain ⟨pre, post, he, rfl⟩ := h; refine ⟨[], post, ?_, rfl⟩
  have h1 : T.data.size = T.size := rfl; rw [ByteArray.data_extract, Array.toList_extract, List.extract_eq_take_drop, he, List.drop_left, ← h1, ← Array.length_toList, he, List.nil_append]; exact List.take_of_length_le (by simp only [List.length_append]; omega)
end

/-! ### The 256 bytes -/
def escB (c : Int) : Bool := match ident_escaped.f c with
  | some r => (match r.data.toList with
    | [x, h, y] => x == 92 && (y == 32 && (token_hex.f 3 (h.toNat : Int) == some c && (token_feed.f (h.toNat : Int) == some false && h != 0)))
    | [x, h, g, y] => x == 92 && (y == 32 && ((match token_hex.f 3 (h.toNat : Int), token_hex.f 3 (g.toNat : Int) with
      | some a, some b => decide (0 ≤ a) && (decide (a ≤ 15) && (decide (0 ≤ b) && a * 16 + b == c))
      | _, _ => false) && (token_feed.f (h.toNat : Int) == some false && h != 0)))
    | _ => false)
  | none => false
def fineL (c : Int) : Bool := token_lexer_ident_1.f c == some true && (decide (c ≠ 45) && (token_blank.f c == some false && (token_feed.f c == some false && (number_digit.f c == some false && decide (c ≠ 43 ∧ c ≠ 46 ∧ c ≠ 47 ∧ c ≠ 34 ∧ c ≠ 39 ∧ c ≠ 92)))))
def fineO (c : Int) : Bool := token_hex.f 3 c == some (-1) && (token_feed.f c == some false && decide (c ≠ 0))
def fine (c : Int) : Bool := (token_Letter.f c).isSome && ((ident_digit.f c).isSome && ((ident_control.f c).isSome && ((ident_escaped.f c).isSome && ((token_Letter.f c != some true || fineL c) && ((ident_digit.f c != some true || token_lexer_ident_1.f c == some true) &&
  ((token_Letter.f c == some true || (ident_digit.f c == some true || (ident_control.f c == some true || fineO c))) && (escB c && ((ident_control.f c == some true || token_feed.f c == some false) && ((ident_control.f c != some true || decide (c < 128)) && (ident_digit.f c != some true || decide (c < 128)))))))))))
theorem fine_all : (List.range 256).all (fun n => fine (n : Int)) = true := by decide +kernel
theorem chr_all : (List.range 128).all (fun n => n == 0 || decide (token_character.f 6 (n : Int) = some (⟨#[UInt8.ofNat n]⟩ : ByteArray))) = true := by decide +kernel
theorem fine_of (c : UInt8) : fine (c.toNat : Int) = true := List.all_eq_true.1 fine_all c.toNat (List.mem_range.2 c.toNat_lt)
structure Told (c : UInt8) : Prop where
  ex : ∃ t1 t2 t3 t4, token_Letter.f (c.toNat : Int) = some t1 ∧ ident_digit.f (c.toNat : Int) = some t2 ∧ ident_control.f (c.toNat : Int) = some t3 ∧ ident_escaped.f (c.toNat : Int) = some t4
  letter : token_Letter.f (c.toNat : Int) = some true → fineL (c.toNat : Int) = true
  digit : ident_digit.f (c.toNat : Int) = some true → token_lexer_ident_1.f (c.toNat : Int) = some true
  other : token_Letter.f (c.toNat : Int) ≠ some true → ident_digit.f (c.toNat : Int) ≠ some true → ident_control.f (c.toNat : Int) ≠ some true → fineO (c.toNat : Int) = true
  esc : escB (c.toNat : Int) = true
  feed : ident_control.f (c.toNat : Int) ≠ some true → token_feed.f (c.toNat : Int) = some false
  c128 : ident_control.f (c.toNat : Int) = some true → (c.toNat : Int) < 128
  d128 : ident_digit.f (c.toNat : Int) = some true → (c.toNat : Int) < 128
theorem told (c : UInt8) : Told c := by
  have h := fine_of c; simp only [fine, Bool.and_eq_true, Bool.or_eq_true, beq_iff_eq, bne_iff_ne, decide_eq_true_eq] at h; obtain ⟨h1, h2, h3, h4, h5, h6, h7, h8, h9, h10, h11⟩ := h; obtain ⟨t1, e1⟩ := Option.isSome_iff_exists.1 h1; obtain ⟨t2, e2⟩ := Option.isSome_iff_exists.1 h2; obtain ⟨t3, e3⟩ := Option.isSome_iff_exists.1 h3; obtain ⟨t4, e4⟩ := Option.isSome_iff_exists.1 h4; refine ⟨⟨t1, t2, t3, t4, e1, e2, e3, e4⟩, fun h => h5.resolve_left (fun g => g h), fun h => h6.resolve_left (fun g => g h), fun g1 g2 g3 => ((h7.resolve_left g1).resolve_left g2).resolve_left g3, h8, fun g => h9.resolve_left g, fun h => h10.resolve_left (fun g => g h), fun h => h11.resolve_left (fun g => g h)⟩
theorem chr_ev (c : UInt8) (h0 : c ≠ 0) (h1 : (c.toNat : Int) < 128) : Ev (fun k => token_character.f k (c.toNat : Int)) (⟨#[c]⟩ : ByteArray) := by
  have h := List.all_eq_true.1 chr_all c.toNat (List.mem_range.2 (by omega)); simp only [Bool.or_eq_true, beq_iff_eq, decide_eq_true_eq] at h; have h2 := h.resolve_left (fun e => h0 (UInt8.toNat_inj.1 (by simpa using e))); rw [UInt8.ofNat_toNat] at h2; exact Ev.of (token_character.mono _) h2
theorem hexv {c : UInt8} {v : Int} (h : token_hex.f 3 (c.toNat : Int) = some v) : Ev (fun k => token_hex.f k (c.toNat : Int)) v := Ev.of (token_hex.mono _) h

theorem b92 : token_lexer_begins_1.f (((92 : UInt8).toNat : Nat) : Int) = some false := by decide
theorem b45 : token_lexer_begins_1.f (((45 : UInt8).toNat : Nat) : Int) = some true := by decide
theorem L92 : token_Letter.f (((92 : UInt8).toNat : Nat) : Int) = some false := by decide
theorem i92 : token_lexer_ident_1.f (((92 : UInt8).toNat : Nat) : Int) = some false := by decide
theorem esc_cases {c : Int} {t : ByteArray} (he : escB c = true) (ht : ident_escaped.f c = some t) :
    (∃ h, t.data.toList = [92, h, 32] ∧ token_hex.f 3 (h.toNat : Int) = some c ∧ token_feed.f (h.toNat : Int) = some false ∧ h ≠ 0) ∨
    (∃ h g a b, t.data.toList = [92, h, g, 32] ∧ token_hex.f 3 (h.toNat : Int) = some a ∧ token_hex.f 3 (g.toNat : Int) = some b ∧ 0 ≤ a ∧ a ≤ 15 ∧ 0 ≤ b ∧ a * 16 + b = c ∧ token_feed.f (h.toNat : Int) = some false ∧ h ≠ 0) := by
  unfold escB at he; rw [ht] at he; dsimp only at he; split at he
  · rename_i x h y e
    simp only [Bool.and_eq_true, beq_iff_eq, bne_iff_ne] at he; obtain ⟨rfl, rfl, e1, e2, e3⟩ := he; exact Or.inl ⟨h, e, e1, e2, e3⟩
  · rename_i x h g y e
    simp only [Bool.and_eq_true, beq_iff_eq, bne_iff_ne] at he; obtain ⟨rfl, rfl, he, e2, e3⟩ := he; split at he
    · rename_i a b ea eb
      simp only [Bool.and_eq_true, decide_eq_true_eq, beq_iff_eq] at he; obtain ⟨a0, a15, b0, eab⟩ := he; exact Or.inr ⟨h, g, a, b, e, ea, eb, a0, a15, b0, eab, e2, e3⟩
    cases he
  cases he

/-! ### Escapes -/
section
variable {T : ByteArray} {p : Nat} {c h g : UInt8} {L : List UInt8} {r : ByteArray × Int}
theorem hex_top (hT : T.size ≤ 1000000) (ha : At T p (92 :: h :: L)) (hf : token_feed.f (h.toNat : Int) = some false) (hr : Ev (fun k => token_Hex.l0 k T (p : Int) 0 0 0) r) : Ev (fun k => token_Hex.f k T (p : Int)) r := by
  obtain ⟨h1, h2⟩ := ha.get; obtain ⟨h3, h4⟩ := ha.tail.get; have e0 : wrap64 ((T.size : Int) - 2) = (T.size : Int) - 2 := w64 (by omega) (by omega); have e1 : wrap64 ((p : Int) + 1) = ((p + 1 : Nat) : Int) := by rw [w64 (by omega) (by omega)]; omega
  simp only [token_Hex.f, e0, e1]; refine ev_neg (by omega) (ev_neg (by omega) (ev_pos (by omega) (ev_pos (by omega) (ev_pos h2 (ev_pos (by omega) (ev_pos (by omega) (ev_bindc (by rw [h4]; exact hf) (ev_step ?_))))))))
  simp only [token_Hex.j0]; exact ev_neg (by decide) hr
theorem hex_none (hT : T.size ≤ 1000000) (h : p < T.size → bt T (p : Int) ≠ 92) : Ev (fun k => token_Hex.f k T (p : Int)) ((⟨#[]⟩ : ByteArray), (0 : Int)) := by
  have e0 : wrap64 ((T.size : Int) - 2) = (T.size : Int) - 2 := w64 (by omega) (by omega); have j0 : Ev (fun k => token_Hex.j0 k T (p : Int) true) ((⟨#[]⟩ : ByteArray), (0 : Int)) := ev_step (by simp only [token_Hex.j0]; exact ev_pos (by trivial) ev_some); simp only [token_Hex.f, e0]; refine ev_neg (by omega) (ev_ite (fun _ => j0) (fun h1 => ev_pos (by omega) (ev_pos (by omega) (ev_neg (h (by omega)) j0))))
set_option maxHeartbeats 1000000 in
theorem l0_dig (hT : T.size ≤ 1000000) (n kk : Nat) (hn : n ≤ 1000) (hk : kk < 6) (ha : At T (p + 1 + kk) (h :: L)) {v : Int} (hv : token_hex.f 3 (h.toNat : Int) = some v) (h0 : 0 ≤ v) (h15 : v ≤ 255) (hr : Ev (fun k => token_Hex.l0 k T (p : Int) ((n : Int) * 16 + v) ((kk : Int) + 1) ((kk : Int) + 1)) r) :
    Ev (fun k => token_Hex.l0 k T (p : Int) (n : Int) (kk : Int) (kk : Int)) r := by
  obtain ⟨h1, h2⟩ := ha.get; have e1 : wrap64 ((p : Int) + 1) = (p : Int) + 1 := w64 (by omega) (by omega); have e3 : wrap64 ((p : Int) + 1 + (kk : Int)) = ((p + 1 + kk : Nat) : Int) := by rw [w64 (by omega) (by omega)]; omega
  have e7 : wrap64 ((kk : Int) + 1) = (kk : Int) + 1 := w64 (by omega) (by omega); have e8 : wrap64 (wrap64 ((n : Int) * 16) + v) = (n : Int) * 16 + v := by rw [w64 (x := (n : Int) * 16) (by omega) (by omega), w64 (by omega) (by omega)]
  have HE := am_ e8; clear e8; refine ev_step ?_
  simp only [token_Hex.l0, e1, e3, e7]; rw [h2]; clear e1 e3 e7 h2; refine ev_pos (by omega) (ev_neg (by omega) (ev_pos (by omega) (ev_pos (by omega) (ev_bind (hexv hv) (ev_neg (by omega) (ev_bind (hexv hv) ?_))))))
  rw [HE.out]; exact hr
theorem l0_stop (hT : T.size ≤ 1000000) (n kk : Nat) (hk : kk < 6) (ha : At T (p + 1 + kk) (h :: L)) (hv : token_hex.f 3 (h.toNat : Int) = some (-1)) (hr : Ev (fun k => token_Hex.j2 k T (p : Int) (n : Int) (kk : Int)) r) :
    Ev (fun k => token_Hex.l0 k T (p : Int) (n : Int) (kk : Int) (kk : Int)) r := by
  obtain ⟨h1, h2⟩ := ha.get; have e1 : wrap64 ((p : Int) + 1) = (p : Int) + 1 := w64 (by omega) (by omega); have e3 : wrap64 ((p : Int) + 1 + (kk : Int)) = ((p + 1 + kk : Nat) : Int) := by rw [w64 (by omega) (by omega)]; omega
  refine ev_step ?_
  simp only [token_Hex.l0, e1, e3]; rw [h2]; exact ev_pos (by omega) (ev_neg (by omega) (ev_pos (by omega) (ev_pos (by omega) (ev_bind (hexv hv) (ev_pos (by decide) hr)))))
theorem j2_sp (hT : T.size ≤ 1000000) (n kk : Nat) (hk0 : 0 < kk) (hk : kk < 6) (ha : At T (p + 1 + kk) (32 :: L)) {x : ByteArray} (hx : Ev (fun k => token_character.f k (n : Int)) x) :
    Ev (fun k => token_Hex.j2 k T (p : Int) (n : Int) (kk : Int)) (x, (kk : Int) + 2) := by
  obtain ⟨h1, h2⟩ := ha.get; have e1 : wrap64 ((p : Int) + 1) = (p : Int) + 1 := w64 (by omega) (by omega); have e3 : wrap64 ((p : Int) + 1 + (kk : Int)) = ((p + 1 + kk : Nat) : Int) := by rw [w64 (by omega) (by omega)]; omega
  have e4 : wrap64 (wrap64 (((p + 1 + kk : Nat) : Int) + 1) - (p : Int)) = (kk : Int) + 2 := by rw [w64 (x := ((p + 1 + kk : Nat) : Int) + 1) (by omega) (by omega), w64 (by omega) (by omega)]; omega
  refine ev_step ?_
  simp only [token_Hex.j2, e1, e3, e4]; rw [h2]; exact ev_neg (by omega) (ev_pos (by omega) (ev_pos (by omega) (ev_bindc (by decide : token_blank.f (((32 : UInt8).toNat : Nat) : Int) = some true) (ev_pos (by trivial) (ev_bind hx ev_some)))))
theorem hexO (hT : T.size ≤ 1000000) (ha : At T p [92, c]) (ho : fineO (c.toNat : Int) = true) : Ev (fun k => token_Hex.f k T (p : Int)) ((⟨#[c]⟩ : ByteArray), (2 : Int)) := by
  simp only [fineO, Bool.and_eq_true, beq_iff_eq] at ho; refine hex_top hT ha ho.2.1 (l0_stop hT 0 0 (by decide) ha.tail ho.1 (ev_step ?_))
  have hs := ha.size; have e1 : wrap64 ((p : Int) + 1) = (p : Int) + 1 := w64 (by omega) (by simp at hs; omega); have e2 : wrap64 ((p : Int) + 2) = (p : Int) + 2 := w64 (by omega) (by simp at hs; omega); simp only [token_Hex.j2, e1, e2]; simp at hs
  refine ev_pos rfl (ev_pos (by omega) (ev_pos (by omega) (ev_pos (by omega) (ev_eq ?_))))
  have : T.extract ((p : Int) + 1).toNat ((p : Int) + 2).toNat = ⟨#[c]⟩ := by
    obtain ⟨pre, post, he, rfl⟩ := ha; apply Go.WideShapes.bytes_inj
    rw [ByteArray.data_extract, Array.toList_extract, List.extract_eq_take_drop, he, (by omega : ((pre.length : Int) + 1).toNat = pre.length + 1), (by omega : ((pre.length : Int) + 2).toNat = pre.length + 2), ← List.drop_drop, List.drop_left]; simp
  rw [this]
theorem hexE (hT : T.size ≤ 1000000) {t : ByteArray} (ht : ident_escaped.f (c.toNat : Int) = some t) (h0 : c ≠ 0) (h128 : (c.toNat : Int) < 128) (ha : At T p t.data.toList) : Ev (fun k => token_Hex.f k T (p : Int)) ((⟨#[c]⟩ : ByteArray), (t.size : Int)) ∧ ∃ h L, t.data.toList = 92 :: h :: L ∧ h ≠ 0 := by
  have he := (told c).esc; have hx := chr_ev c h0 h128; have hz : t.size = t.data.toList.length := (data_length t).symm; rw [hz]; rcases esc_cases he ht with ⟨h, hl, e1, e2, e3⟩ | ⟨h, g, a, b, hl, e5, e6, a0, a15, b0, eab, e2, e3⟩
  · rw [hl] at ha ⊢
    refine ⟨?_, h, [32], rfl, e3⟩
    have q2 : Ev (fun k => token_Hex.l0 k T (p : Int) (c.toNat : Int) ((1 : Nat) : Int) ((1 : Nat) : Int)) ((⟨#[c]⟩ : ByteArray), (3 : Int)) := ev_cast (l0_stop (p := p) hT c.toNat 1 (by decide) ha.tail.tail (by decide) (j2_sp hT c.toNat 1 (by decide) (by decide) ha.tail.tail hx)) rfl; have e : ((0 : Nat) : Int) * 16 + (c.toNat : Int) = (c.toNat : Int) := by omega
    exact hex_top hT ha e2 (l0_dig (p := p) hT 0 0 (by decide) (by decide) ha.tail e1 (by omega) (by omega) (by rw [e]; exact q2))
  rw [hl] at ha ⊢; refine ⟨?_, h, [g, 32], rfl, e3⟩
  have q3 : Ev (fun k => token_Hex.l0 k T (p : Int) (c.toNat : Int) ((2 : Nat) : Int) ((2 : Nat) : Int)) ((⟨#[c]⟩ : ByteArray), (4 : Int)) := ev_cast (l0_stop (p := p) hT c.toNat 2 (by decide) ha.tail.tail.tail (by decide) (j2_sp hT c.toNat 2 (by decide) (by decide) ha.tail.tail.tail hx)) rfl; have e1 : ((0 : Nat) : Int) * 16 + a = (a.toNat : Int) := by omega
  have e4 : ((a.toNat : Nat) : Int) * 16 + b = (c.toNat : Int) := by omega
  have q2 : Ev (fun k => token_Hex.l0 k T (p : Int) (a.toNat : Int) ((1 : Nat) : Int) ((1 : Nat) : Int)) ((⟨#[c]⟩ : ByteArray), (4 : Int)) := l0_dig (p := p) hT a.toNat 1 (by omega) (by decide) ha.tail.tail e6 b0 (by omega) (by rw [e4]; exact q3); exact hex_top hT ha e2 (l0_dig (p := p) hT 0 0 (by decide) (by decide) ha.tail e5 a0 (by omega) (by rw [e1]; exact q2))
end

/-! ### Identifiers, quoted texts -/
section
variable {T : ByteArray} {p : Nat} {c h : UInt8} {L acc : List UInt8} {r : List UInt8 × Nat} {e : Int}
theorem is_at (f : Int → Option Bool) (ha : At T p (c :: L)) : isF f T p = f (c.toNat : Int) := by
  obtain ⟨h1, h2⟩ := ha.get; unfold isF; rw [if_pos h1, h2]
theorem is_end (f : Int → Option Bool) : isF f T T.size = some false := by
  unfold isF; rw [if_neg (Nat.lt_irrefl _)]
theorem esc_yes (ha : At T p (92 :: h :: L)) (h0 : h ≠ 0) {x : ByteArray} {n : Int} (hx : Ev (fun k => token_Hex.f k T (p : Int)) (x, n)) (hn : n > 0) : Ev (fun k => escF k T p) true := by
  obtain ⟨h1, h2⟩ := ha.tail.get; unfold escF; refine ev_bind hx (ev_pos hn (ev_pos h1 (ev_eq ?_)))
  rw [h2]; rw [bne_iff_ne]; intro e; exact h0 (UInt8.toNat_inj.1 (by simpa using e))
theorem esc_no (hT : T.size ≤ 1000000) (h : p < T.size → bt T (p : Int) ≠ 92) : Ev (fun k => escF k T p) false := by
  unfold escF; exact ev_bind (hex_none hT h) (ev_neg (by decide) ev_some)
theorem byteAt_at (ha : At T p (c :: L)) : byteAt T p = c := by
  unfold byteAt; rw [ha.get.2]; simp
theorem id_plain (hc : token_lexer_ident_1.f (c.toNat : Int) = some true) (ha : At T p (c :: L)) (hl : acc.length ≤ 10000000) (hr : Ev (fun k => identF k T (p + 1) (acc ++ [c])) r) : Ev (fun k => identF k T p acc) r := by
  refine ev_step ?_
  simp only [identF]; refine ev_bindc ((is_at _ ha).trans hc) (ev_pos rfl (ev_pos ha.get.1 (ev_pos hl ?_)))
  rw [byteAt_at ha]; exact hr
theorem id_esc (ha : At T p (92 :: h :: L)) (h0 : h ≠ 0) {x : ByteArray} {n : Nat} (hx : Ev (fun k => token_Hex.f k T (p : Int)) (x, (n : Int))) (hn : n > 0) (hs : p + n ≤ T.size) (hl : acc.length + x.size ≤ 10000000) (hr : Ev (fun k => identF k T (p + n) (acc ++ x.data.toList)) r) : Ev (fun k => identF k T p acc) r := by
  refine ev_step ?_
  simp only [identF]; refine ev_bindc ((is_at _ ha).trans i92) (ev_neg (by decide) (ev_bind (esc_yes ha h0 hx (by omega)) (ev_pos rfl (ev_bind hx (ev_pos (by omega) (ev_pos (by simpa using hs) (ev_pos hl ?_)))))))
  simpa using hr
theorem id_end (hT : T.size ≤ 1000000) (hi : isF token_lexer_ident_1.f T p = some false) (h : p < T.size → bt T (p : Int) ≠ 92) : Ev (fun k => identF k T p acc) (acc, p) := by
  refine ev_step ?_
  simp only [identF]; exact ev_bindc hi (ev_neg (by decide) (ev_bind (esc_no hT h) (ev_neg (by decide) ev_some)))
end

/-! ### Blanks, words -/
section
variable {T : ByteArray} {p : Nat} {c h : UInt8} {L : List UInt8}
theorem sk_end : Ev (fun k => skipF k T T.size) T.size := by
  refine ev_step ?_
  simp only [skipF]; exact ev_neg (Nat.lt_irrefl _) ev_some
theorem sk_blank (ha : At T p (c :: L)) (hb : token_blank.f (c.toNat : Int) = some true) {r : Nat} (hr : Ev (fun k => skipF k T (p + 1)) r) : Ev (fun k => skipF k T p) r := by
  obtain ⟨h1, h2⟩ := ha.get; refine ev_step ?_
  simp only [skipF]; rw [h2]; exact ev_pos h1 (ev_bindc hb (ev_pos rfl hr))
theorem no_comment (ha : At T p (c :: L)) (h47 : c ≠ 47) : strings_HasPrefix.f (T.extract p T.size) (⟨#[47, 42]⟩ : ByteArray) = some false := by
  obtain ⟨pre, post, he, h0⟩ := ha.ext; obtain rfl := List.eq_nil_of_length_eq_zero h0; generalize T.extract p T.size = E at he ⊢
  unfold strings_HasPrefix.f stringslite_HasPrefix.f; by_cases hz : (E.size : Int) ≥ ((⟨#[47, 42]⟩ : ByteArray).size : Int)
  · rw [if_pos hz, if_pos (by omega), if_pos hz]
    show some ((E.extract 0 2).toList == (⟨#[47, 42]⟩ : ByteArray).toList) = some false
    rw [ByteArray.toList_eq, ByteArray.toList_eq, ByteArray.data_extract, Array.toList_extract, List.extract_eq_take_drop, he]; simp
    intro e; exact absurd e h47
  rw [if_neg hz]; rfl
theorem sk_stop (ha : At T p (c :: L)) (hb : token_blank.f (c.toNat : Int) = some false) (h47 : c ≠ 47) : Ev (fun k => skipF k T p) p := by
  obtain ⟨h1, h2⟩ := ha.get; refine ev_step ?_
  simp only [skipF]; rw [h2]; exact ev_pos h1 (ev_bindc hb (ev_neg (by decide) (ev_bindc (no_comment ha h47) (ev_neg (by decide) ev_some))))
def NoNum (c : UInt8) : Prop := number_digit.f (c.toNat : Int) = some false ∧ c ≠ 46
theorem scan0 (hT : T.size ≤ 1000000) (ha : At T p (c :: L)) (hc : NoNum c) (h43 : c ≠ 43) (h45 : c = 45 → ∃ g L', L = g :: L' ∧ NoNum g) : number_Scan.f (T.extract p T.size) = some 0 := by
  have hE : (T.extract p T.size).size ≤ 140737488351232 := by rw [ByteArray.size_extract]; omega
  have hb := ha.ext; generalize T.extract p T.size = E at hb hE ⊢
  obtain ⟨g1, g2⟩ := hb.get; have key : number_parts.w1 E = number_parts.w0 E ∧ number_parts.at2 E = number_parts.w1 E := by
    have d46 : ∀ {x : UInt8}, x ≠ 46 → ((x.toNat : Int) == 46) = false := fun {x} hx => by
      rw [beq_eq_false_iff_ne]; intro e; exact hx (UInt8.toNat_inj.1 (by have : (x.toNat : Int) = 46 := e; show x.toNat = 46; omega))
    by_cases h : c = 45
    · obtain ⟨g, L', rfl, hg⟩ := h45 h
      obtain ⟨g3, g4⟩ := hb.tail.get; subst h; have e0 : number_parts.w0 E = 1 := by
        unfold number_parts.w0 number_parts.sgn number_parts.isSign; rw [dt_ g1, show bt E ((0 : Nat) : Int) = 45 from g2]; rfl
      have e1 : number_parts.w1 E = 1 := by
        unfold number_parts.w1; rw [e0]; exact number_parts.stop_here E 1 g3 (by rw [show bt E ((1 : Nat) : Int) = _ from g4, hg.1]; decide)
      have e2 : number_parts.isDot E 1 = false := by
        unfold number_parts.isDot; rw [show bt E ((1 : Nat) : Int) = _ from g4, d46 hg.2, Bool.and_false]
      refine ⟨by rw [e0, e1], ?_⟩
      unfold number_parts.at2; rw [e1, e2]; rfl
    have e0 : number_parts.w0 E = 0 := by
      unfold number_parts.w0 number_parts.sgn number_parts.isSign; rw [show bt E ((0 : Nat) : Int) = _ from g2]; have a1 : ((c.toNat : Int) == 43) = false := by
        rw [beq_eq_false_iff_ne]; intro e; exact h43 (UInt8.toNat_inj.1 (by have : (c.toNat : Int) = 43 := e; show c.toNat = 43; omega))
      have a2 : ((c.toNat : Int) == 45) = false := by
        rw [beq_eq_false_iff_ne]; intro e; exact h (UInt8.toNat_inj.1 (by have : (c.toNat : Int) = 45 := e; show c.toNat = 45; omega))
      rw [a1, a2]; simp
    have e1 : number_parts.w1 E = 0 := by
      unfold number_parts.w1; rw [e0]; exact number_parts.stop_here E 0 g1 (by rw [show bt E ((0 : Nat) : Int) = _ from g2, hc.1]; decide)
    have e2 : number_parts.isDot E 0 = false := by
      unfold number_parts.isDot; rw [show bt E ((0 : Nat) : Int) = _ from g2, d46 hc.2, Bool.and_false]
    refine ⟨by rw [e0, e1], ?_⟩
    unfold number_parts.at2; rw [e1, e2]; rfl
  unfold number_Scan.f number_parts.f; rw [if_pos hE, if_pos key]; rfl
theorem beg_letter (ha : At T p (c :: L)) (h45 : c ≠ 45) (hl : token_Letter.f (c.toNat : Int) = some true) : Ev (fun k => begF k T p) true := by
  unfold begF; have e : isF token_lexer_begins_1.f T p = some false := by
    rw [is_at _ ha]; unfold token_lexer_begins_1.f; refine congrArg some (beq_eq_false_iff_ne.2 fun e => h45 (UInt8.toNat_inj.1 ?_))
    have : (c.toNat : Int) = 45 := e
    show c.toNat = 45
    omega
  exact ev_bindc e (ev_neg (by decide) (ev_bindc ((is_at _ ha).trans hl) (ev_pos rfl ev_some)))
theorem beg_esc (ha : At T p (92 :: h :: L)) (h0 : h ≠ 0) {x : ByteArray} {n : Int} (hx : Ev (fun k => token_Hex.f k T (p : Int)) (x, n)) (hn : n > 0) : Ev (fun k => begF k T p) true := by
  unfold begF; exact ev_bindc ((is_at _ ha).trans b92) (ev_neg (by decide) (ev_bindc ((is_at _ ha).trans L92) (ev_neg (by decide) (esc_yes ha h0 hx hn))))
theorem beg_minus (ha : At T p (45 :: c :: L)) (hc : c = 45 ∨ (c ≠ 45 ∧ token_Letter.f (c.toNat : Int) = some true)) : Ev (fun k => begF k T p) true := by
  unfold begF; refine ev_bindc ((is_at _ ha).trans b45) (ev_pos rfl ?_)
  rcases hc with rfl | ⟨h45, hl⟩
  · exact ev_bindc ((is_at _ ha.tail).trans b45) (ev_pos rfl ev_some)
  have e : isF token_lexer_begins_1.f T (p + 1) = some false := by
    rw [is_at _ ha.tail]; unfold token_lexer_begins_1.f; refine congrArg some (beq_eq_false_iff_ne.2 fun e => h45 (UInt8.toNat_inj.1 ?_))
    have : (c.toNat : Int) = 45 := e
    show c.toNat = 45
    omega
  exact ev_bindc e (ev_neg (by decide) (ev_bindc ((is_at _ ha.tail).trans hl) (ev_pos rfl ev_some)))
theorem beg_minus_esc (ha : At T p (45 :: 92 :: h :: L)) (h0 : h ≠ 0) {x : ByteArray} {n : Int} (hx : Ev (fun k => token_Hex.f k T ((p + 1 : Nat) : Int)) (x, n)) (hn : n > 0) : Ev (fun k => begF k T p) true := by
  unfold begF; exact ev_bindc ((is_at _ ha).trans b45) (ev_pos rfl (ev_bindc ((is_at _ ha.tail).trans b92) (ev_neg (by decide) (ev_bindc ((is_at _ ha.tail).trans L92) (ev_neg (by decide) (esc_yes ha.tail h0 hx hn))))))
theorem beg_no (hT : T.size ≤ 1000000) (ha : At T p (c :: L)) (h45 : token_lexer_begins_1.f (c.toNat : Int) = some false) (hl : token_Letter.f (c.toNat : Int) = some false) (h92 : (c.toNat : Int) ≠ 92) : Ev (fun k => begF k T p) false := by
  unfold begF; exact ev_bindc ((is_at _ ha).trans h45) (ev_neg (by decide) (ev_bindc ((is_at _ ha).trans hl) (ev_neg (by decide) (esc_no hT (fun _ => by rw [ha.get.2]; exact h92)))))
theorem w_ident (ha : At T p (c :: L)) (hs : number_Scan.f (T.extract p T.size) = some 0) (hb : Ev (fun k => begF k T p) true) {l : List UInt8} {j : Nat} (hi : Ev (fun k => identF k T p []) (l, j)) (hl : l.length ≤ 64) (hj : j ≤ T.size) (hp : isF token_lexer_word_2.f T j = some false) :
    Ev (fun k => wordF k T p) ((1 : Int), (⟨l.toArray⟩ : ByteArray), (⟨#[]⟩ : ByteArray), j) := by
  simp only [wordF]; exact ev_pos ha.get.1 (ev_bindc hs (ev_neg (by decide) (ev_bind hb (ev_pos rfl (ev_bind hi (ev_pos ⟨hl, hj⟩ (ev_bindc hp (ev_neg (by decide) ev_some))))))))
theorem w_sign (ha : At T p [c]) (hs : number_Scan.f (T.extract p T.size) = some 0) (hb : Ev (fun k => begF k T p) false) (hq : ¬ ((c.toNat : Int) = 34 ∨ (c.toNat : Int) = 39)) (hi : ∃ q, strings_IndexByte.f (⟨#[44, 47, 58, 59, 123, 125, 91, 93, 40, 41]⟩ : ByteArray) (c.toNat : Int) = some q ∧ q ≥ 0) :
    Ev (fun k => wordF k T p) ((7 : Int), (⟨#[c]⟩ : ByteArray), (⟨#[]⟩ : ByteArray), p + 1) := by
  obtain ⟨q, hi, hq0⟩ := hi; have e : T.extract p (p + 1) = ⟨#[c]⟩ := by
    obtain ⟨pre, post, he, rfl⟩ := ha; apply Go.WideShapes.bytes_inj
    rw [ByteArray.data_extract, Array.toList_extract, List.extract_eq_take_drop, he, List.drop_left]; simp
  simp only [wordF]; rw [ha.get.2, e]; exact ev_pos ha.get.1 (ev_bindc hs (ev_neg (by decide) (ev_bind hb (ev_neg (by decide) (ev_neg hq (ev_bindc hi (ev_pos hq0 ev_some)))))))
theorem tk_step {out : List S67} {r : List S67} {kd : Int} {tx nm : ByteArray} {j j2 : Nat} (hp : p < T.size) (ho : out.length < 65536) (hw : Ev (fun k => wordF k T p) (kd, tx, nm, j)) (hj : j ≤ T.size) (hs : Ev (fun k => skipF k T j) j2) (hj2 : j2 ≤ T.size)
    (hr : Ev (fun k => token_Tokens.l0 k T j2 (out ++ [⟨kd, (p : Int), tx, nm⟩])) r) : Ev (fun k => token_Tokens.l0 k T p out) r := by
  refine ev_step ?_
  simp only [token_Tokens.l0]; exact ev_pos hp (ev_pos ho (ev_bind hw (ev_pos hj (ev_bind hs (ev_pos hj2 hr)))))
theorem tk_end {out : List S67} : Ev (fun k => token_Tokens.l0 k T T.size out) (out ++ [⟨8, (T.size : Int), ⟨#[]⟩, ⟨#[]⟩⟩]) := by
  refine ev_step ?_
  simp only [token_Tokens.l0]; exact ev_neg (Nat.lt_irrefl _) ev_some
theorem strOf_bytes (T : ByteArray) : strOfNums (bytesOf T) = T := by
  apply Go.WideShapes.bytes_inj
  show (bytesOf T).map (fun n => UInt8.ofNat n.toNat) = _
  unfold bytesOf; rw [List.map_map]; conv => rhs; rw [← List.map_id T.data.toList]
  refine List.map_congr_left fun b _ => ?_
  simp
theorem tokens_ev {i : Nat} {r : List S67} (hT : T.size ≤ 262144) (hs : Ev (fun k => skipF k T 0) i) (hi : i ≤ T.size) (hr : Ev (fun k => token_Tokens.l0 k T i []) r) : Ev (fun k => token_Tokens.f k (bytesOf T)) (r, (0 : Int), (0 : Int)) := by
  simp only [token_Tokens.f, strOf_bytes]; exact ev_pos (by rw [bytesOf_length]; exact hT) (ev_bind hs (ev_pos hi (ev_bind hr ev_some)))
end
end Go.Proofs.YtofdhdafabmhmaaDoor.PureLx
end
section
/- What is written or quoted (layer 4) is one word to the lexer, wherever it stands. Conditions: as each theorem says. -/
namespace Go.Proofs.YtofdhdafabmhmaaDoor.PureLx
open Go.RowKit Go.Proofs.YtofdhdafabmhmaaDoorW.PrintWords Go.Proofs.YtofdhdafabmhmaaDoorW.PrintMore Go.Proofs.YtofdhdafabmhmaaDoor.Evs Go.Proofs.YtofdhdafabmhmaaDoor.Opn Go.Proofs.YtofdhdafabmhmaaDoor.PLf4 Go.Proofs.YtofdhdafabmhmaaDoor.Giv

section
variable {s : ByteArray} {i : Nat} {c : UInt8} {r : ByteArray} {l : List UInt8}
theorem sub_one (hs : s.size ≤ 1000000) (hc : s.data.toList[i]? = some c) : (s.extract ((i : Int)).toNat (wrap64 ((i : Int) + 1)).toNat).data.toList = [c] := by
  have hi := (bt_list hc).1; rw [w64 (by omega) (by omega), (by omega : ((i : Int) + 1).toNat = i + 1), Int.toNat_natCast, ByteArray.data_extract, Array.toList_extract, List.extract_eq_take_drop, (by omega : i + 1 - i = 1)]; obtain ⟨h1, h2⟩ := List.getElem?_eq_some_iff.1 hc; rw [List.drop_eq_getElem_cons h1, h2]; simp
theorem app_list (a b : ByteArray) : (a ++ b).data.toList = a.data.toList ++ b.data.toList := by simp
/-- A piece: the byte itself; its number; or a backslash and the byte. -/
inductive Pc (c : UInt8) (r : ByteArray) (P : Prop) : Prop
  | plain (h : r.data.toList = [c]) (hp : P)
  | esc (h : ident_escaped.f (c.toNat : Int) = some r) (h128 : (c.toNat : Int) < 128)
  | other (h : r.data.toList = [92, c]) (ho : fineO (c.toNat : Int) = true)
theorem write_one (hs : s.size ≤ 1000000) (hc : s.data.toList[i]? = some c) (h : ident_Write.one s (i : Int) = some r) :
    Pc c r (token_lexer_ident_1.f (c.toNat : Int) = some true ∧ (fineL (c.toNat : Int) = true ∧ token_Letter.f (c.toNat : Int) = some true ∨ (c = 45 ∧ 1 < s.size) ∨ (ident_digit.f (c.toNat : Int) = some true ∧ ident_Write.first s (i : Int) = false))) := by
  have tc := told c; obtain ⟨t1, t2, t3, t4, e1, e2, e3, e4⟩ := tc.ex; unfold ident_Write.one at h; rw [(bt_list hc).2, e1, e2, e3, e4] at h; replace h := si_ h; have hsub := sub_one hs hc; by_cases c1 : t1 = true
  · rw [if_pos c1] at h
    subst c1; have hl := tc.letter e1; have hl' := hl; simp only [fineL, Bool.and_eq_true, beq_iff_eq] at hl'; exact Pc.plain (by rw [← h]; exact hsub) ⟨hl'.1, Or.inl ⟨hl, e1⟩⟩
  rw [if_neg c1] at h; by_cases c2 : (c.toNat : Int) = 45 ∧ 1 < (s.size : Int)
  · rw [if_pos c2] at h
    have hc45 : c = 45 := UInt8.toNat_inj.1 (by have := c2.1; show c.toNat = 45; omega); refine Pc.plain (by rw [← h]; exact hsub) ⟨?_, Or.inr (Or.inl ⟨hc45, by omega⟩)⟩
    subst hc45; decide
  rw [if_neg c2] at h; by_cases c3 : t2 = true ∧ ident_Write.first s (i : Int) = false
  · rw [if_pos c3] at h
    have e2' := e2; rw [c3.1] at e2'; exact Pc.plain (by rw [← h]; exact hsub) ⟨tc.digit e2', Or.inr (Or.inr ⟨e2', c3.2⟩)⟩
  rw [if_neg c3] at h; by_cases c4 : t2 = true
  · rw [if_pos c4] at h
    exact Pc.esc (by rw [← h]; exact e4) (tc.d128 (by rw [e2, c4]))
  rw [if_neg c4] at h; by_cases c5 : t3 = true
  · rw [if_pos c5] at h
    exact Pc.esc (by rw [← h]; exact e4) (tc.c128 (by rw [e3, c5]))
  rw [if_neg c5] at h; refine Pc.other ?_ (tc.other (by rw [e1]; simpa using c1) (by rw [e2]; simpa using c4) (by rw [e3]; simpa using c5))
  rw [← h, app_list]; show [92] ++ (ident_Write.sub s (i : Int)).data.toList = _
  rw [show (ident_Write.sub s (i : Int)).data.toList = [c] from hsub]; rfl
end
/-- The pieces stand one behind the other. -/
theorem write_pre (s : ByteArray) : ∀ (n : Nat) {i : Nat} {c l : List UInt8}, i ≤ n → ident_Write.cat s i = some c → ident_Write.cat s n = some l → ∃ rest, l = c ++ rest
  | 0, i, c, l, hi, hc, hl => by
    obtain rfl : i = 0 := by omega
    rw [hc] at hl; exact ⟨[], by rw [si_ hl]; simp⟩
  | n + 1, i, c, l, hi, hc, hl => by
    by_cases h : i = n + 1
    · subst h
      rw [hc] at hl; exact ⟨[], by rw [si_ hl]; simp⟩
    obtain ⟨c', r, h1, h2, h3, h4⟩ := ident_Write.cat_lt s hl (Nat.lt_succ_self n); obtain ⟨rest, hr⟩ := write_pre s n (by omega) hc h1; rw [h4] at hl; exact ⟨rest ++ r.data.toList, by rw [← si_ hl, hr, List.append_assoc]⟩
theorem take_next {α : Type} {x : List α} {i : Nat} {c : α} (h : x[i]? = some c) : x.take i ++ [c] = x.take (i + 1) := by
  obtain ⟨h1, h2⟩ := List.getElem?_eq_some_iff.1 h; rw [List.take_succ_eq_append_getElem h1, h2]
section
variable {T s : ByteArray} {P : Nat} {l : List UInt8}
/-- What was written is taken as what it means. -/
theorem write_ident (hT : T.size ≤ 1000000) (hs : s.size ≤ 1000) (h0 : ∀ c ∈ s.data.toList, c ≠ 0) (hl : ident_Write.cat s s.size = some l) (ha : At T P l) (he : isF token_lexer_ident_1.f T (P + l.length) = some false) (he2 : P + l.length < T.size → bt T ((P + l.length : Nat) : Int) ≠ 92) :
    ∀ (d i : Nat), s.size - i = d → i ≤ s.size → ∀ c, ident_Write.cat s i = some c → Ev (fun k => identF k T (P + c.length) (s.data.toList.take i)) (s.data.toList, P + l.length) := by
  intro d; induction d with
  | zero =>
    intro i hd hi c hc; obtain rfl : i = s.size := by omega
    rw [hl] at hc; obtain rfl := si_ hc; rw [List.take_of_length_le (by rw [data_length]; exact Nat.le_refl _)]; exact id_end hT he he2
  | succ d ih =>
    intro i hd hi c hc; obtain ⟨c', r, h1, h2, h3, h4⟩ := ident_Write.cat_lt s hl (show i < s.size by omega); rw [hc] at h1; obtain rfl := si_ h1; obtain ⟨rest, hr⟩ := write_pre s s.size (show i + 1 ≤ s.size by omega) h4 hl; have ha2 : At T (P + c.length) (r.data.toList ++ rest) := by
      refine At.right (A := c) ?_
      rw [← List.append_assoc, ← hr]; exact ha
    have hlen : i < s.data.toList.length := by rw [data_length]; omega
    obtain ⟨x, hx⟩ : ∃ x, s.data.toList[i]? = some x := ⟨_, List.getElem?_eq_getElem hlen⟩
    have hx0 : x ≠ 0 := h0 x (List.mem_of_getElem? hx); have hn := ih (i + 1) (by omega) (by omega) _ h4; rw [List.length_append, ← Nat.add_assoc, ← take_next hx] at hn; have hacc : (s.data.toList.take i).length ≤ 1000 := by rw [List.length_take, data_length]; omega
    have hsz := ha2.left.size; rcases write_one (by omega) hx h2 with ⟨hp, hq, _⟩ | ⟨hp, h128⟩ | ⟨hp, ho⟩
    · rw [hp] at ha2 hn
      exact id_plain hq ha2 (by omega) hn
    · obtain ⟨hex, g, L, hgl, hg0⟩ := hexE hT hp hx0 h128 ha2.left
      have hz : r.size = r.data.toList.length := (data_length r).symm; rw [hgl] at ha2; refine id_esc (n := r.size) ha2 hg0 hex ?_ (by rw [hz]; exact hsz) (by have : (⟨#[x]⟩ : ByteArray).size = 1 := rfl; omega) ?_
      · rw [hz, hgl]
        simp
      rw [hz]; exact hn
    have ho' := ho; simp only [fineO, Bool.and_eq_true, beq_iff_eq, decide_eq_true_eq] at ho'; rw [hp] at ha2 hn hsz; exact id_esc (n := 2) ha2 hx0 (hexO hT ha2.left ho) (by decide) hsz (by have : (⟨#[x]⟩ : ByteArray).size = 1 := rfl; omega) hn
/-- How what was written begins: no number, an identifier, no blank. -/
theorem write_head (hT : T.size ≤ 1000000) (hs : s.size ≤ 1000) (hs0 : 0 < s.size) (h0 : ∀ c ∈ s.data.toList, c ≠ 0) (hl : ident_Write.cat s s.size = some l) (ha : At T P l) :
    ∃ c L, l = c :: L ∧ token_blank.f (c.toNat : Int) = some false ∧ c ≠ 47 ∧ number_Scan.f (T.extract P T.size) = some 0 ∧ Ev (fun k => begF k T P) true := by
  have piece : ∀ i, i < s.size → ∃ x r c, s.data.toList[i]? = some x ∧ x ≠ 0 ∧ ident_Write.cat s i = some c ∧ ident_Write.one s (i : Int) = some r ∧ ident_Write.cat s (i + 1) = some (c ++ r.data.toList) ∧ ∃ rest, l = c ++ (r.data.toList ++ rest) := fun i hi => by
    obtain ⟨c, r, h1, h2, h3, h4⟩ := ident_Write.cat_lt s hl hi; obtain ⟨rest, hr⟩ := write_pre s s.size (show i + 1 ≤ s.size by omega) h4 hl; have hlen : i < s.data.toList.length := by rw [data_length]; omega
    exact ⟨_, r, c, List.getElem?_eq_getElem hlen, h0 _ (List.getElem_mem hlen), h1, h2, h4, rest, by rw [hr, List.append_assoc]⟩
  have n92 : NoNum 92 := ⟨by decide, by decide⟩
  obtain ⟨x, r, c, hx, hx0, hc, h2, h4, rest, hr⟩ := piece 0 hs0; obtain rfl := si_ hc; rw [List.nil_append] at hr; rw [hr] at ha; rw [hr]; rcases write_one (by omega) hx h2 with ⟨hp, hq, hcase⟩ | ⟨hp, h128⟩ | ⟨hp, ho⟩
  · rw [hp] at ha
    rw [hp]; rcases hcase with ⟨hfl, hlet⟩ | ⟨rfl, h1⟩ | ⟨_, hfirst⟩
    · simp only [fineL, Bool.and_eq_true, beq_iff_eq, decide_eq_true_eq] at hfl
      obtain ⟨_, g45, gb, gf, gd, g43, g46, g47, g34, g39, g92⟩ := hfl; have ne : ∀ {n : Nat} (h : n < 256), (x.toNat : Int) ≠ (n : Int) → x ≠ UInt8.ofNat n := fun {n} h h1 e => h1 (by rw [e]; simp [Nat.mod_eq_of_lt h])
      refine ⟨x, rest, rfl, gb, ne (by decide) g47, scan0 hT ha ⟨gd, ne (by decide) g46⟩ (ne (by decide) g43) (fun e => absurd e (ne (by decide) g45)), beg_letter ha (ne (by decide) g45) hlet⟩
    · obtain ⟨y, r1, c1, hy, hy0, hc1, h21, h41, rest1, hr1⟩ := piece 1 h1
      rw [h4] at hc1; obtain rfl := si_ hc1; rw [hr, hp] at hr1; have hrr : rest = r1.data.toList ++ rest1 := by simpa using hr1
      rw [hrr] at ha; rw [hrr]; have first1 : ident_Write.first s ((1 : Nat) : Int) = true := by
        unfold ident_Write.first; have : bt s ((0 : Nat) : Int) = 45 := (bt_list hx).2
        rw [show bt s 0 = 45 from this]; rfl
      have fin : ∀ (g : UInt8) (L' : List UInt8), r1.data.toList ++ rest1 = g :: L' → NoNum g → Ev (fun k => begF k T P) true →
          ∃ c L, [45] ++ (r1.data.toList ++ rest1) = c :: L ∧ token_blank.f (c.toNat : Int) = some false ∧ c ≠ 47 ∧ number_Scan.f (T.extract P T.size) = some 0 ∧ Ev (fun k => begF k T P) true := fun g L' e hg hb => by
        refine ⟨45, r1.data.toList ++ rest1, rfl, by decide, by decide, scan0 hT ha ⟨by decide, by decide⟩ (by decide) (fun _ => ⟨g, L', e, hg⟩), hb⟩
      rcases write_one (by omega) hy h21 with ⟨hp1, hq1, hcase1⟩ | ⟨hp1, h1281⟩ | ⟨hp1, ho1⟩
      · have ha' := ha
        rw [hp1] at ha'; rcases hcase1 with ⟨hfl, hlet⟩ | ⟨rfl, _⟩ | ⟨_, hfirst⟩
        · simp only [fineL, Bool.and_eq_true, beq_iff_eq, decide_eq_true_eq] at hfl
          obtain ⟨_, g45, gb, gf, gd, g43, g46, g47, g34, g39, g92⟩ := hfl; have ne : ∀ {n : Nat} (h : n < 256), (y.toNat : Int) ≠ (n : Int) → y ≠ UInt8.ofNat n := fun {n} h h1 e => h1 (by rw [e]; simp [Nat.mod_eq_of_lt h])
          exact fin y rest1 (by rw [hp1]; rfl) ⟨gd, ne (by decide) g46⟩ (beg_minus ha' (Or.inr ⟨ne (by decide) g45, hlet⟩))
        · exact fin 45 rest1 (by rw [hp1]; rfl) ⟨by decide, by decide⟩ (beg_minus ha' (Or.inl rfl))
        rw [first1] at hfirst; cases hfirst
      · have ha1 : At T (P + 1) (r1.data.toList ++ rest1) := ha.tail
        obtain ⟨hex, g, L, hgl, hg0⟩ := hexE hT hp1 hy0 h1281 ha1.left; have ha' := ha; rw [hgl] at ha'; have hz : r1.size = r1.data.toList.length := (data_length r1).symm; exact fin 92 (g :: L ++ rest1) (by rw [hgl]; rfl) n92 (beg_minus_esc ha' hg0 hex (by rw [hz, hgl]; simp; omega))
      have ha1 : At T (P + 1) (r1.data.toList ++ rest1) := ha.tail; have ha' := ha; rw [hp1] at ha' ha1; exact fin 92 (y :: rest1) (by rw [hp1]; rfl) n92 (beg_minus_esc ha' hy0 (hexO hT ha1.left ho1) (by decide))
    have : ident_Write.first s ((0 : Nat) : Int) = true := rfl
    rw [this] at hfirst; cases hfirst
  · obtain ⟨hex, g, L, hgl, hg0⟩ := hexE hT hp hx0 h128 ha.left
    rw [hgl] at ha; rw [hgl]; have hz : r.size = r.data.toList.length := (data_length r).symm; exact ⟨92, g :: L ++ rest, rfl, by decide, by decide, scan0 hT ha n92 (by decide) (fun e => absurd e (by decide)), beg_esc ha hg0 hex (by rw [hz, hgl]; simp; omega)⟩
  rw [hp] at ha; rw [hp]; exact ⟨92, x :: rest, rfl, by decide, by decide, scan0 hT ha n92 (by decide) (fun e => absurd e (by decide)), beg_esc ha hx0 (hexO hT ha.left ho) (by decide)⟩
end

/-! ### The whole text's words -/
theorem mk_list (s : ByteArray) : (⟨s.data.toList.toArray⟩ : ByteArray) = s := by
  apply Go.WideShapes.bytes_inj
  simp
def quoted (l : List UInt8) : ByteArray := ((⟨#[34]⟩ : ByteArray) ++ ⟨l.toArray⟩) ++ (⟨#[34]⟩ : ByteArray)
theorem no_zero {s : ByteArray} (h : Lib.indexByte s.data.toList 0 < 0) : ∀ c ∈ s.data.toList, c ≠ 0 := by
  rintro c hc rfl
  have h1 : Lib.indexByte s.data.toList 0 = -1 := by
    have := Lib.indexByte_ge s.data.toList 0
    omega
  obtain ⟨i, hi⟩ := List.mem_iff_getElem?.1 hc; exact Lib.indexByte_none h1 i hi
theorem name_cases (s : ByteArray) : (ident_Name.f s = some true ∧ 0 < s.size ∧ s.size ≤ 64 ∧ ∀ c ∈ s.data.toList, c ≠ 0) ∨ ident_Name.f s = some false := by
  unfold ident_Name.f; rw [ByteArray.toList_eq]; by_cases h1 : s.data.toList = []
  · rw [if_pos h1]
    exact Or.inr rfl
  rw [if_neg h1]; by_cases h2 : (s.size : Int) ≤ 64
  · rw [if_pos h2]
    show ((some (decide (Lib.indexByte s.data.toList 0 < 0)) = some true) ∧ _) ∨ (some (decide (Lib.indexByte s.data.toList 0 < 0)) = some false)
    by_cases h3 : Lib.indexByte s.data.toList 0 < 0
    · refine Or.inl ⟨by rw [dt_ h3], ?_, by omega, no_zero h3⟩
      rcases Nat.eq_zero_or_pos s.size with h | h
      · exact absurd (List.eq_nil_of_length_eq_zero (by rw [data_length]; exact h)) h1
      exact h
    exact Or.inr (by rw [df_ h3])
  rw [if_neg h2]; exact Or.inr rfl
theorem pc_size {c : UInt8} {r : ByteArray} {P : Prop} (h : Pc c r P) : r.size ≤ 8 := by
  rw [← data_length]; rcases h with ⟨h, _⟩ | ⟨h, _⟩ | ⟨h, _⟩
  · rw [h]
    simp
  · rcases esc_cases (told c).esc h with ⟨_, e, _⟩ | ⟨_, _, _, _, e, _⟩
    · rw [e]
      simp
    rw [e]; simp
  rw [h]; simp
theorem write_cat (s : ByteArray) (hs : s.size ≤ 1000000) : ∀ n, n ≤ s.size → ∃ l, ident_Write.cat s n = some l
  | 0, _ => ⟨[], rfl⟩
  | n + 1, h => by
    obtain ⟨c, hc⟩ := write_cat s hs n (by omega); have hlen : n < s.data.toList.length := by rw [data_length]; omega
    have hx := List.getElem?_eq_getElem hlen; obtain ⟨t1, t2, t3, t4, e1, e2, e3, e4⟩ := (told (s.data.toList[n])).ex; obtain ⟨r, hr⟩ : ∃ r, ident_Write.one s (n : Int) = some r := by
      unfold ident_Write.one; rw [(bt_list hx).2, e1, e2, e3, e4]; exact ⟨_, rfl⟩
    refine ⟨c ++ r.data.toList, ?_⟩
    simp only [ident_Write.cat]; rw [hc]; show (ident_Write.one s (n : Int)).bind _ = _
    rw [hr]; exact if_pos (pc_size (write_one hs hx hr))
end Go.Proofs.YtofdhdafabmhmaaDoor.PureLx
end
section
/- Numbers as text (layer 2): what a number's text has, by the plain programs and by the document. Conditions: as each statement says. -/
namespace Go.Proofs.YtofdhdafabmhmaaDoor.PureTu
open Go.RowKit Go.Proofs.YtofdhdafabmhmaaDoorW.PrintWords Go.Proofs.YtofdhdafabmhmaaDoorW.PrintMore Go.Proofs.YtofdhdafabmhmaaDoor.Evs Go.Proofs.YtofdhdafabmhmaaDoor.Opn Go.Proofs.YtofdhdafabmhmaaDoor.PLf4

/-! ### Digits and signs -/
def isD (c : Int) : Bool := decide (48 ≤ c ∧ c ≤ 57)
theorem digit_f (c : Int) : number_digit.f c = some (isD c) := by
  unfold number_digit.f isD; by_cases h : c ≥ 48
  · rw [if_pos h]
    congr 1
    exact decide_eq_decide.2 ⟨fun k => ⟨h, k⟩, fun k => k.2⟩
  rw [if_neg h]; congr 1
  exact (df_ (fun k => h k.1)).symm
theorem stop_next {s : ByteArray} {i : Nat} (h : i < s.size) (hd : isD (bt s (i : Nat)) = true) : number_parts.stop s i = number_parts.stop s (i + 1) := number_parts.stop_next s i h (by rw [digit_f, hd])
theorem stop_here {s : ByteArray} {i : Nat} (h : i < s.size) (hd : isD (bt s (i : Nat)) = false) : number_parts.stop s i = i := number_parts.stop_here s i h (by rw [digit_f, hd]; simp)
theorem stop_digit (s : ByteArray) : ∀ d i j : Nat, s.size - i = d → i ≤ j → j < number_parts.stop s i → isD (bt s (j : Nat)) = true := by
  intro d; induction d with
  | zero =>
    intro i j hd hij hj; have : s.size - i = 0 := hd
    unfold number_parts.stop at hj; rw [this] at hj; simp only [number_parts.stopF] at hj; omega
  | succ d ih =>
    intro i j hd hij hj; by_cases hD : isD (bt s (i : Nat)) = true
    · rcases Nat.eq_or_lt_of_le hij with rfl | h
      · exact hD
      rw [stop_next (by omega) hD] at hj; exact ih (i + 1) j (by omega) h hj
    rw [stop_here (by omega) (by simpa using hD)] at hj; omega
/-- Where the digits end, told from outside. -/
theorem stop_eq (s : ByteArray) : ∀ d i j : Nat, j - i = d → i ≤ j → j ≤ s.size → (∀ m, i ≤ m → m < j → isD (bt s (m : Nat)) = true) → (j < s.size → isD (bt s (j : Nat)) = false) → number_parts.stop s i = j := by
  intro d; induction d with
  | zero =>
    intro i j hd hij hj h1 h2; obtain rfl : i = j := by omega
    by_cases h : i < s.size
    · exact stop_here h (h2 h)
    obtain rfl : i = s.size := by omega
    exact number_parts.stop_end s
  | succ d ih =>
    intro i j hd hij hj h1 h2; rw [stop_next (by omega) (h1 i (Nat.le_refl _) (by omega))]; exact ih (i + 1) j (by omega) (by omega) hj (fun m hm => h1 m (by omega)) h2
theorem sgn_bd (s : ByteArray) (i : Nat) (h : i ≤ s.size) : i ≤ number_parts.sgn s i ∧ number_parts.sgn s i ≤ s.size ∧ number_parts.sgn s i ≤ i + 1 := by
  unfold number_parts.sgn number_parts.isSign; by_cases h : i < s.size
  · rw [dt_ h]
    split <;> omega
  rw [df_ h]; simp
  omega

/-! ### The parts -/
theorem w0_bd (s : ByteArray) : number_parts.w0 s ≤ s.size := (sgn_bd s 0 (by omega)).2.1
theorem w1_bd (s : ByteArray) : number_parts.w0 s ≤ number_parts.w1 s ∧ number_parts.w1 s ≤ s.size := number_parts.stop_bd s _ (w0_bd s)
/-- How many digits stand behind the point. -/
def pn (s : ByteArray) : Nat := number_parts.at2 s - number_parts.w1 s - 1
theorem dot_lt {s : ByteArray} {i : Nat} (h : number_parts.isDot s i = true) : i < s.size := by
  unfold number_parts.isDot at h; simp at h
  exact h.1
theorem isE_lt {s : ByteArray} {i : Nat} (h : number_parts.isE s i = true) : i < s.size := by
  unfold number_parts.isE at h; simp at h
  exact h.1
theorem p1_bd {s : ByteArray} (h : number_parts.isDot s (number_parts.w1 s) = true) : number_parts.w1 s + 1 ≤ number_parts.p1 s ∧ number_parts.p1 s ≤ s.size := by
  unfold number_parts.p1; rw [if_pos h]; have := dot_lt h
  exact number_parts.stop_bd s _ (by omega)
theorem at2_bd (s : ByteArray) : number_parts.w1 s ≤ number_parts.at2 s ∧ number_parts.at2 s ≤ s.size ∧ number_parts.at2 s ≠ number_parts.w1 s + 1 := by
  unfold number_parts.at2; have h1 := w1_bd s; split
  · rename_i h
    have := p1_bd h
    split <;> omega
  omega
def noNum (s : ByteArray) : Bool := decide (number_parts.w1 s = number_parts.w0 s ∧ number_parts.at2 s = number_parts.w1 s)
def endOf (s : ByteArray) : Nat := if number_parts.hasE s = true then number_parts.x1 s else number_parts.at2 s
theorem x0_bd {s : ByteArray} (h : number_parts.isE s (number_parts.at2 s) = true) : number_parts.at2 s + 1 ≤ number_parts.x0 s ∧ number_parts.x0 s ≤ s.size ∧ number_parts.x0 s ≤ number_parts.at2 s + 2 := by
  have h1 := isE_lt h; have := sgn_bd s (number_parts.at2 s + 1) (by omega)
  unfold number_parts.x0; omega
theorem x1_bd {s : ByteArray} (h : number_parts.isE s (number_parts.at2 s) = true) : number_parts.x0 s ≤ number_parts.x1 s ∧ number_parts.x1 s ≤ s.size := number_parts.stop_bd s _ (x0_bd h).2.1
def expOf (s : ByteArray) : ByteArray := if number_parts.hasE s = true then s.extract (number_parts.at2 s + 1) (number_parts.x1 s) else ⟨#[]⟩
/-- The program's parts. -/
theorem nparts (s : ByteArray) (hs : s.size ≤ 140737488351232) : number_parts.f s = some (if noNum s = true then (false, ⟨#[]⟩, ⟨#[]⟩, ⟨#[]⟩, 0) else
    (number_parts.neg s 0, s.extract (number_parts.w0 s) (number_parts.w1 s), number_parts.part s, expOf s, (endOf s : Int))) := by
  unfold number_parts.f noNum expOf endOf; rw [if_pos hs]; by_cases h : number_parts.w1 s = number_parts.w0 s ∧ number_parts.at2 s = number_parts.w1 s
  · rw [if_pos h, if_pos (dt_ h)]
  rw [if_neg h, if_neg (fun k => h (od_ k))]; by_cases h2 : number_parts.hasE s = true
  · rw [if_pos h2, if_pos h2, if_pos h2]
  rw [if_neg h2, if_neg h2, if_neg h2]
theorem scan_f (s : ByteArray) (hs : s.size ≤ 140737488351232) : number_Scan.f s = some (if noNum s = true then 0 else (endOf s : Int)) := by
  unfold number_Scan.f; rw [nparts s hs]; by_cases h : noNum s = true
  · rw [if_pos h, if_pos h]
    rfl
  rw [if_neg h, if_neg h]; rfl
end Go.Proofs.YtofdhdafabmhmaaDoor.PureTu
end
section
/- Digits times a scale, rounded: by the program and by the document. Conditions: as each statement says. -/
namespace Go.Proofs.YtofdhdafabmhmaaDoor.PureTv
open Go.RowKit Go.Proofs.YtofdhdafabmhmaaDoorW.PrintWords Go.Proofs.YtofdhdafabmhmaaDoorW.PrintMore Go.Proofs.YtofdhdafabmhmaaDoor.Evs Go.Proofs.YtofdhdafabmhmaaDoor.Opn Go.Proofs.YtofdhdafabmhmaaDoor.PLf4 Go.Proofs.YtofdhdafabmhmaaDoor.Dig
def IsScale (sc : Int) : Prop := sc = 1 ∨ sc = 64 ∨ sc = 1000
theorem IsScale.bd {sc : Int} (h : IsScale sc) : 1 ≤ sc ∧ sc ≤ 1000 := by
  rcases h with rfl | rfl | rfl <;> decide

/-! ### The document's product -/
theorem rd_at (pre : List Int) (x : Int) (rest : List Int) : rd (pre ++ x :: rest) ((pre.length : Nat) : Int) = x := by
  unfold rd; rw [Int.toNat_natCast, List.getD_eq_getElem?_getD, List.getElem?_append_right (Nat.le_refl _), Nat.sub_self]; rfl
/-! ### The document's rounding -/
/-! ### The program's product -/
theorem rd_rev (l : List Int) (h : l ≠ []) : rd l.reverse 0 = l.getD (l.length - 1) 0 := by
  have h1 := List.length_pos_iff.2 h; unfold rd; rw [List.getD_eq_getElem?_getD, List.getD_eq_getElem?_getD, show (0 : Int).toNat = 0 from rfl, List.getElem?_reverse h1]; rfl
def fin (sc W : Int) (l : List Int) (c : Int) : Int := W * sc + c + (if (l.length : Int) > 0 ∧ rd l 0 ≥ 5 then 1 else 0)
theorem set_mid (pre : List Int) (x y : Int) (done : List Int) : ((pre ++ x :: done).set pre.length y) = pre ++ y :: done := by
  rw [List.set_append_right _ _ (Nat.le_refl _), Nat.sub_self]; rfl
theorem l3_ev {sc : Int} (hs : IsScale sc) (W : Int) (hW : 0 ≤ W) (hW2 : W ≤ 10000000000000) : ∀ (lo done : List Int) (c : Int), Dg lo → 0 ≤ c → c < sc → lo.length + done.length ≤ 1000000 →
    Ev (fun k => number_scaled.l3 k sc W (lo.reverse ++ done) c ((lo.length : Int) - 1)) (fin sc W ((mulLow sc lo c).reverse ++ done) (carry sc lo c), decide (fin sc W ((mulLow sc lo c).reverse ++ done) (carry sc lo c) ≤ 68719476736))
  | [], done, c, hd, h0, h1, hl => by
    have hb := hs.bd; have hws : 0 ≤ W * sc ∧ W * sc ≤ 10000000000000000 := by
      rcases hs with rfl | rfl | rfl <;> omega
    refine ev_step ?_
    simp only [number_scaled.l3]; refine ev_neg (by simp) ?_
    show Ev _ (fin sc W done c, decide (fin sc W done c ≤ 68719476736))
    simp only [List.reverse_nil, List.nil_append]; rw [w64 (x := W * sc) (by omega) (by omega), w64 (x := W * sc + c) (by omega) (by omega), w64 (x := W * sc + c + 1) (by omega) (by omega)]; refine ev_ite (fun h2 => ev_pos (by omega) (ev_ite (fun h3 => ?_) (fun h3 => ?_))) (fun h2 => ?_)
    · have : fin sc W done c = W * sc + c + 1 := by unfold fin; rw [if_pos ⟨h2, h3⟩]
      rw [this]; exact ev_eq rfl
    · have : fin sc W done c = W * sc + c := by unfold fin; rw [if_neg (fun k => h3 k.2)]; omega
      rw [this]; exact ev_eq rfl
    have : fin sc W done c = W * sc + c := by unfold fin; rw [if_neg (fun k => h2 k.1)]; omega
    rw [this]; exact ev_eq rfl
  | x :: lo, done, c, hd, h0, h1, hl => by
    have hb := hs.bd; have hx := hd.head; have hm := mul_bd hx (show 0 ≤ sc by omega); have hlen : (x :: lo).length = lo.length + 1 := rfl; refine ev_step ?_
    simp only [number_scaled.l3]; have e0 : (x :: lo).reverse ++ done = lo.reverse ++ x :: done := by simp
    have e1 : (((x :: lo).length : Nat) : Int) - 1 = ((lo.reverse.length : Nat) : Int) := by rw [List.length_reverse, hlen]; omega
    rw [e0, e1]; have e2 : rd (lo.reverse ++ x :: done) ((lo.reverse.length : Nat) : Int) = x := rd_at _ _ _; have e3 : (((lo.reverse.length : Nat) : Int)).toNat = lo.reverse.length := Int.toNat_natCast _; have hl2 : (lo.reverse ++ x :: done).length = lo.length + 1 + done.length := by simp only [List.length_append, List.length_reverse, List.length_cons]; omega
    have hl3 : lo.reverse.length = lo.length := List.length_reverse; refine ev_pos (by omega) (ev_pos (by omega) (ev_pos (by omega) ?_))
    rw [e2, e3, set_mid, w64 (x := x) (by omega) (by omega), w64 (x := x * sc) (by omega) (by omega), w64 (x := x * sc + c) (by omega) (by omega), Int.tmod_eq_emod_of_nonneg (by omega), Int.tdiv_eq_ediv_of_nonneg (by omega), w64 (x := (x * sc + c) / 10) (by omega) (by omega),
      show ((x * sc + c) % 10) % 256 = (x * sc + c) % 10 by omega, w64 (x := ((lo.reverse.length : Nat) : Int) - 1) (by omega) (by omega), hl3]
    have hi := l3_ev hs W hW hW2 lo (((x * sc + c) % 10) :: done) ((x * sc + c) / 10) hd.tail (by omega) (by omega) (by simp only [List.length_cons] at hl ⊢; omega); have e4 : (mulLow sc (x :: lo) c).reverse ++ done = (mulLow sc lo ((x * sc + c) / 10)).reverse ++ ((x * sc + c) % 10) :: done := by
      show (((x * sc + c) % 10) :: mulLow sc lo ((x * sc + c) / 10)).reverse ++ done = _
      simp
    rw [e4]; exact hi
theorem l2_ev (d : List Int) (hd : d.length ≤ 10000) (point sc W : Int) (hp : -10000 ≤ point ∧ point ≤ 10000) (r : Int × Bool)
    (h : Ev (fun k => number_scaled.l3 k sc W (List.replicate (-point).toNat 0 ++ d.drop (min d.length point.toNat)) 0 (((List.replicate (-point).toNat (0 : Int) ++ d.drop (min d.length point.toNat)).length : Int) - 1)) r) :
    ∀ (j i : Nat), i + j = (-point).toNat → Ev (fun k => number_scaled.l2 k d point sc W (List.replicate i 0) (mx 0 (wrap64 (-point))) (i : Nat)) r
  | 0, i, hij => by
    obtain rfl : i = (-point).toNat := by omega
    refine ev_step ?_
    simp only [number_scaled.l2]; rw [mx_eq, mn_eq, mx_eq, w64 (x := -point) (by omega) (by omega)]; have e : (min (d.length : Int) (max 0 point)).toNat = min d.length point.toNat := by omega
    refine ev_neg (by omega) (ev_pos (by omega) (ev_pos (by omega) ?_))
    rw [e]; refine ev_bindc rfl (ev_pos (by simp only [List.length_replicate, List.length_drop]; omega) (ev_bindc rfl ?_))
    rw [w64 (by simp only [List.length_append, List.length_replicate, List.length_drop]; omega) (by simp only [List.length_append, List.length_replicate, List.length_drop]; omega)]; exact h
  | j + 1, i, hij => by
    refine ev_step ?_
    simp only [number_scaled.l2]; rw [mx_eq, w64 (x := -point) (by omega) (by omega)]; refine ev_pos (by omega) (ev_pos (by simp only [List.length_replicate]; omega) ?_)
    have hi := l2_ev d hd point sc W hp r h j (i + 1) (by omega); rw [mx_eq, w64 (x := -point) (by omega) (by omega)] at hi; rw [w64 (x := (i : Int) + 1) (by omega) (by omega), show List.replicate i (0 : Int) ++ [0] = List.replicate (i + 1) 0 from List.replicate_succ'.symm]; exact hi
theorem l1_ev (d : List Int) (hg : Dg d) (hd : d.length ≤ 10000) (point sc : Int) (hp : -10000 ≤ point ∧ point ≤ 13) (r : Int × Bool)
    (h : Ev (fun k => number_scaled.l2 k d point sc (hv d point.toNat) [] (mx 0 (wrap64 (-point))) 0) r) :
    ∀ (j i : Nat), i + j = point.toNat → Ev (fun k => number_scaled.l1 k d point sc (hv d i) (mx 0 point) (i : Nat)) r
  | 0, i, hij => by
    obtain rfl : i = point.toNat := by omega
    refine ev_step ?_
    simp only [number_scaled.l1]; rw [mx_eq 0 point]; exact ev_neg (by omega) h
  | j + 1, i, hij => by
    have h0 := hv_nonneg hg i; have h1 := hv_lt hg i; have h2 := m10_13 (i := i) (by omega); have hx := hg.get i; refine ev_step ?_
    simp only [number_scaled.l1]; rw [mx_eq 0 point]; refine ev_pos (by omega) ?_
    have hi := l1_ev d hg hd point sc hp r h j (i + 1) (by omega); rw [mx_eq 0 point] at hi; have e : rd d ((i : Nat) : Int) = d.getD i 0 := by unfold rd; rw [Int.toNat_natCast]
    have e1 : hv d (i + 1) = 10 * hv d i + d.getD i 0 := rfl; rw [e, w64 (x := hv d i * 10) (by omega) (by omega), w64 (x := d.getD i 0) (by omega) (by omega), w64 (x := hv d i * 10 + d.getD i 0) (by omega) (by omega), w64 (x := (i : Int) + 1) (by omega) (by omega)]; refine ev_ite (fun h3 => ev_pos (by omega) ?_) (fun h3 => ?_)
    · rw [show hv d i * 10 + d.getD i 0 = hv d (i + 1) by omega]
      exact hi
    have e2 : d.getD i 0 = 0 := by
      rw [List.getD_eq_getElem?_getD, List.getElem?_eq_none (by omega)]; rfl
    rw [show hv d i * 10 = hv d (i + 1) by omega]; exact hi
/-- What the loop over the low digits tells is the rounded value. -/
theorem fin_S {sc : Int} (hs : IsScale sc) (d : List Int) (hg : Dg d) (point : Int) :
    fin sc (hv d point.toNat) ((mulLow sc (List.replicate (-point).toNat 0 ++ d.drop (min d.length point.toNat)).reverse 0).reverse) (carry sc (List.replicate (-point).toNat 0 ++ d.drop (min d.length point.toNat)).reverse 0) = S (L d.reverse * sc) ((d.length : Int) - point) := by
  have hb := hs.bd; have key : ∀ (lo : List Int) (W : Int), Lw lo W = L d.reverse → (lo.length : Int) = (d.length : Int) - point → fin sc W (mulLow sc lo 0).reverse (carry sc lo 0) = S (L d.reverse * sc) ((d.length : Int) - point) := by
    intro lo W h1 h2; have e1 := carry_q sc W lo 0; rw [h1, Int.add_zero] at e1; unfold S; rw [if_neg (by omega), show ((d.length : Int) - point).toNat = lo.length by omega, e1]; unfold fin; rw [List.length_reverse, mulLow_len]; congr 1
    by_cases h3 : lo = []
    · rw [h3] at h2 ⊢
      rw [if_neg (by simp), if_neg (by simp only [List.length_nil] at h2; omega)]
    have h4 := List.length_pos_iff.2 h3; have h5 : mulLow sc lo 0 ≠ [] := by
      intro k; have := mulLow_len sc lo 0
      rw [k] at this; simp only [List.length_nil] at this; omega
    rw [rd_rev _ h5, mulLow_len, mulLow_get sc W lo 0 (lo.length - 1) (by omega), h1, Int.add_zero]; by_cases h6 : q (L d.reverse * sc) (lo.length - 1) % 10 ≥ 5
    · rw [if_pos ⟨by omega, h6⟩, if_pos ⟨by omega, h6⟩]
    rw [if_neg (fun k => h6 k.2), if_neg (fun k => h6 k.2)]
  by_cases h1 : point < 0
  · have e : point.toNat = 0 := by omega
    rw [e, Nat.min_zero, List.drop_zero]; have e2 : (List.replicate (-point).toNat (0 : Int) ++ d).reverse = d.reverse ++ List.replicate (-point).toNat 0 := by rw [List.reverse_append, List.reverse_replicate]
    rw [e2]; refine key _ _ ?_ ?_
    · show Lw (d.reverse ++ List.replicate (-point).toNat 0) 0 = L d.reverse
      rw [Lw_zero, L_app_zeros]
    rw [List.length_append, List.length_reverse, List.length_replicate]; omega
  have e : (-point).toNat = 0 := by omega
  rw [e]; by_cases h2 : point ≤ d.length
  · have e2 : min d.length point.toNat = point.toNat := by omega
    rw [e2]; show fin sc (hv d point.toNat) (mulLow sc (d.drop point.toNat).reverse 0).reverse (carry sc (d.drop point.toNat).reverse 0) = _
    refine key _ _ ?_ ?_
    · rw [hv_take _ (by omega), ← L_app, ← List.reverse_append, List.take_append_drop]
    rw [List.length_reverse, List.length_drop]; omega
  have e2 : min d.length point.toNat = d.length := by omega
  rw [e2, List.drop_length]; obtain ⟨j, hj⟩ : ∃ j : Nat, point.toNat = d.length + j := ⟨point.toNat - d.length, by omega⟩
  rw [hj, hv_more, hv_take _ (Nat.le_refl _), List.take_length]; unfold S; rw [if_pos (show (d.length : Int) - point < 0 by omega), show (-((d.length : Int) - point)).toNat = j by omega, m10_mul]; show m10 (L d.reverse) j * sc + 0 + (if ((([] : List Int).length : Nat) : Int) > 0 ∧ rd [] 0 ≥ 5 then 1 else 0) = _
  rw [if_neg (by simp)]; omega
/-- The program's rounded value, of digits that do not begin with a nought. -/
theorem j1_ev {sc : Int} (hs : IsScale sc) (d : List Int) (hg : Dg d) (hd : d.length ≤ 10000) (point : Int) (hp : -10000 ≤ point ∧ point ≤ 10000) (hne : ∀ x xs, d = x :: xs → 1 ≤ x) :
    ∃ n ok, Ev (fun k => number_scaled.j1 k d point sc) (n, ok) ∧ (ok = true → n = S (L d.reverse * sc) ((d.length : Int) - point) ∧ n ≤ 68719476736) ∧ (ok = false → 68719476736 < S (L d.reverse * sc) ((d.length : Int) - point)) := by
  have hb := hs.bd; by_cases h0 : d = []
  · subst h0
    refine ⟨0, true, ev_step ?_, fun _ => ⟨?_, by decide⟩, fun h => by cases h⟩
    · simp only [number_scaled.j1]
      refine ev_pos rfl (ev_step ?_)
      simp only [number_scaled.j2]; exact ev_pos trivial (ev_eq rfl)
    show 0 = S (0 * sc) _
    rw [Int.zero_mul, S_zero]
  have hl := List.length_pos_iff.2 h0; have hr : d.reverse ≠ [] := by simpa using h0
  have hlast : 1 ≤ d.reverse.getLast hr := by
    rw [List.getLast_reverse]; match d, h0, hne with
    | x :: xs, _, hne => exact hne x xs rfl
  have hlr : d.reverse.length = d.length := List.length_reverse; by_cases h1 : point < -5
  · refine ⟨0, true, ev_step ?_, fun _ => ⟨?_, by decide⟩, fun h => by cases h⟩
    · simp only [number_scaled.j1]
      refine ev_neg (by omega) (ev_step ?_)
      simp only [number_scaled.j2]; exact ev_pos (dt_ h1) (ev_eq rfl)
    have := S_small hb.1 hb.2 hg.rev h1
    rw [hlr] at this; exact this.symm
  by_cases h2 : point > 13
  · refine ⟨0, false, ev_step ?_, (fun h => by cases h), fun _ => ?_⟩
    · simp only [number_scaled.j1]
      refine ev_neg (by omega) (ev_step ?_)
      simp only [number_scaled.j2]; exact ev_neg (by simp; omega) (ev_pos h2 (ev_eq rfl))
    have := S_big hb.1 hg.rev hr hlast h2
    rw [hlr] at this; exact this
  have e := fin_S hs d hg point; have hW := hv_nonneg hg point.toNat; have hW2 := hv_lt hg point.toNat; have hW3 := m10_13 (i := point.toNat) (by omega); have hlo : Dg (List.replicate (-point).toNat 0 ++ d.drop (min d.length point.toNat)).reverse := ((Dg.zeros _).app (hg.drop _)).rev; have hll : (List.replicate (-point).toNat (0 : Int) ++ d.drop (min d.length point.toNat)).length ≤ 20000 := by
    rw [List.length_append, List.length_replicate, List.length_drop]; omega
  have h3 := l3_ev hs (hv d point.toNat) hW (by omega) (List.replicate (-point).toNat 0 ++ d.drop (min d.length point.toNat)).reverse [] 0 hlo (by omega) (by omega) (by rw [List.length_reverse]; simp only [List.length_nil]; omega); rw [List.append_nil, List.append_nil, List.reverse_reverse, List.length_reverse, e] at h3; refine ⟨_, _, ev_step ?_, fun h => ⟨rfl, od_ h⟩, fun h => ?_⟩
  · simp only [number_scaled.j1]
    refine ev_neg (by omega) (ev_step ?_)
    simp only [number_scaled.j2]; refine ev_neg (by simp; omega) (ev_neg h2 ?_)
    exact l1_ev d hg hd point sc (by omega) _ (l2_ev d hd point sc _ (by omega) _ h3 (-point).toNat 0 (by omega)) point.toNat 0 (by omega)
  have := of_decide_eq_false h
  omega
/-- THE PROGRAM's ROUNDED VALUE. -/
theorem scaled_ev {sc : Int} (hs : IsScale sc) : ∀ (d : List Int), Dg d → d.length ≤ 10000 → ∀ (point : Int), -9000 + d.length ≤ point + 1000 → point ≤ 9000 → 
    ∃ n ok, Ev (fun k => number_scaled.f k d point sc) (n, ok) ∧ (ok = true → n = S (L d.reverse * sc) ((d.length : Int) - point) ∧ n ≤ 68719476736) ∧ (ok = false → 68719476736 < S (L d.reverse * sc) ((d.length : Int) - point))
  | [], hg, hd, point, hp1, hp2 => by
    obtain ⟨n, ok, h1, h2, h3⟩ := j1_ev hs [] hg hd point (by simp only [List.length_nil] at hp1; omega) (fun x xs h => by cases h); refine ⟨n, ok, ev_step ?_, h2, h3⟩
    simp only [number_scaled.f, number_scaled.l0]; exact ev_neg (by simp) h1
  | x :: xs, hg, hd, point, hp1, hp2 => by
    have hx := hg.head; have hlen : (x :: xs).length = xs.length + 1 := rfl; have er : rd (x :: xs) 0 = x := rfl; by_cases h0 : x = 0
    · subst h0
      obtain ⟨n, ok, h1, h2, h3⟩ := scaled_ev hs xs hg.tail (by omega) (point - 1) (by omega) (by omega); have eL : L (0 :: xs).reverse = L xs.reverse := by
        rw [List.reverse_cons, show ([0] : List Int) = List.replicate 1 0 from rfl, L_app_zeros]
      have eb : (((0 :: xs : List Int).length : Nat) : Int) - point = (xs.length : Int) - (point - 1) := by rw [List.length_cons]; omega
      rw [eL, eb]; refine ⟨n, ok, ev_step ?_, h2, h3⟩
      simp only [number_scaled.f, number_scaled.l0]; rw [w64 (x := point - 1) (by omega) (by omega)]; refine ev_pos (by rw [List.length_cons]; omega) (ev_pos (by rw [List.length_cons]; omega) (ev_pos er (ev_pos (by rw [List.length_cons]; omega) ?_)))
      exact h1
    obtain ⟨n, ok, h1, h2, h3⟩ := j1_ev hs (x :: xs) hg hd point (by omega) (fun y ys h => by cases h; omega); refine ⟨n, ok, ev_step ?_, h2, h3⟩
    simp only [number_scaled.f, number_scaled.l0]; refine ev_pos (by rw [List.length_cons]; omega) (ev_pos (by rw [List.length_cons]; omega) (ev_neg (by rw [er]; exact h0) ?_))
    exact h1
end Go.Proofs.YtofdhdafabmhmaaDoor.PureTv
end
section
/- The value of a number's text: by the program and by the document. Conditions: as each statement says. -/
namespace Go.Proofs.YtofdhdafabmhmaaDoor.PureTw
open Go.RowKit Go.Proofs.YtofdhdafabmhmaaDoorW.PrintWords Go.Proofs.YtofdhdafabmhmaaDoorW.PrintMore Go.Proofs.YtofdhdafabmhmaaDoor.Evs Go.Proofs.YtofdhdafabmhmaaDoor.Opn Go.Proofs.YtofdhdafabmhmaaDoor.PLf4 Go.Proofs.YtofdhdafabmhmaaDoor.Dig Go.Proofs.YtofdhdafabmhmaaDoor.PureTu Go.Proofs.YtofdhdafabmhmaaDoor.PureTv

/-! ### Bytes of parts -/
def dig (c : Int) : Int := (c - 48) % 256
theorem bytes_app (a b : ByteArray) : bytesOf (a ++ b) = bytesOf a ++ bytesOf b := by
  unfold bytesOf; rw [ByteArray.toList_data_append, List.map_append]
theorem bytes_extract (s : ByteArray) (a b : Nat) : bytesOf (s.extract a b) = ((bytesOf s).drop a).take (b - a) := by
  unfold bytesOf; rw [ByteArray.data_extract, Array.toList_extract, List.extract_eq_take_drop, List.map_take, List.map_drop]
theorem bytes_get (s : ByteArray) (i : Nat) (h : i < s.size) : (bytesOf s)[i]? = some (bt s (i : Nat)) := by
  have hl : i < (bytesOf s).length := by rw [bytesOf_length]; exact h
  rw [← rd_bytesOf]; unfold rd; rw [Int.toNat_natCast, List.getD_eq_getElem?_getD, List.getElem?_eq_getElem hl]; rfl
theorem bt_of_bytes {s : ByteArray} {i : Nat} {c : Int} (h : (bytesOf s)[i]? = some c) : bt s (i : Nat) = c := by
  rw [← rd_bytesOf]; unfold rd; rw [Int.toNat_natCast, List.getD_eq_getElem?_getD, h]; rfl
theorem bytes_range (s : ByteArray) : bytesOf s = (List.range s.size).map fun j => bt s (j : Nat) := by
  apply List.ext_getElem?
  intro i; by_cases h : i < s.size
  · rw [bytes_get s i h, List.getElem?_map, List.getElem?_range h]
    rfl
  rw [List.getElem?_eq_none (by rw [bytesOf_length]; omega), List.getElem?_eq_none (by rw [List.length_map, List.length_range]; omega)]
theorem digs_bytes (s : ByteArray) : number_Value.digs s = (bytesOf s).map dig := by
  rw [bytes_range, List.map_map]; rfl
theorem extract_range (s : ByteArray) (a b : Nat) (h : b ≤ s.size) : bytesOf (s.extract a b) = (List.range (b - a)).map fun t => bt s ((a + t : Nat) : Int) := by
  rw [bytes_extract]; apply List.ext_getElem?
  intro i; by_cases h1 : i < b - a
  · rw [List.getElem?_take_of_lt h1, List.getElem?_drop, bytes_get s (a + i) (by omega), List.getElem?_map, List.getElem?_range h1]
    rfl
  rw [List.getElem?_eq_none (by rw [List.length_take]; omega), List.getElem?_eq_none (by rw [List.length_map, List.length_range]; omega)]
/-- The digits ahead of the point, and behind it. -/
def dl (s : ByteArray) : List Int := ((List.range (number_parts.w1 s - number_parts.w0 s)).map fun t => dig (bt s ((number_parts.w0 s + t : Nat) : Int))) ++ ((List.range (pn s)).map fun t => dig (bt s ((number_parts.w1 s + 1 + t : Nat) : Int)))
theorem part_bytes (s : ByteArray) : bytesOf (number_parts.part s) = (List.range (pn s)).map fun t => bt s ((number_parts.w1 s + 1 + t : Nat) : Int) := by
  unfold number_parts.part; by_cases h : number_parts.isDot s (number_parts.w1 s) = true
  · have h1 := p1_bd h
    rw [if_pos h, extract_range s _ _ h1.2]; have e : number_parts.p1 s - (number_parts.w1 s + 1) = pn s := by
      unfold pn number_parts.at2; rw [if_pos h]; split <;> omega
    rw [e]
  rw [if_neg h]; have e : pn s = 0 := by
    unfold pn number_parts.at2; rw [if_neg h]; omega
  rw [e]; rfl
theorem digs_parts (s : ByteArray) : number_Value.digs (s.extract (number_parts.w0 s) (number_parts.w1 s) ++ number_parts.part s) = dl s := by
  rw [digs_bytes, bytes_app, List.map_append, part_bytes, extract_range s _ _ (w1_bd s).2, List.map_map, List.map_map]; rfl
theorem dig_of {c : Int} (h : isD c = true) : 0 ≤ dig c ∧ dig c ≤ 9 ∧ dig c = c - 48 := by
  have := od_ h
  unfold dig; omega
theorem whole_digit (s : ByteArray) {t : Nat} (h : t < number_parts.w1 s - number_parts.w0 s) : isD (bt s ((number_parts.w0 s + t : Nat) : Int)) = true := stop_digit s _ (number_parts.w0 s) _ rfl (by omega) (show _ < number_parts.w1 s by omega)
theorem pn_dot {s : ByteArray} (h : 0 < pn s) : number_parts.isDot s (number_parts.w1 s) = true ∧ number_parts.w1 s + 1 + pn s = number_parts.stop s (number_parts.w1 s + 1) ∧ number_parts.at2 s = number_parts.w1 s + 1 + pn s := by
  by_cases h1 : number_parts.isDot s (number_parts.w1 s) = true
  · have h2 := p1_bd h1
    have h3 : number_parts.at2 s = number_parts.p1 s := by
      unfold pn at h; unfold number_parts.at2 at h ⊢; rw [if_pos h1] at h ⊢; split <;> rename_i h4
      · rw [if_pos h4] at h
        omega
      rfl
    have h4 : number_parts.p1 s = number_parts.stop s (number_parts.w1 s + 1) := by unfold number_parts.p1; rw [if_pos h1]
    refine ⟨h1, ?_, ?_⟩
    · rw [← h4]
      unfold pn at h ⊢; omega
    unfold pn at h ⊢; omega
  unfold pn number_parts.at2 at h; rw [if_neg h1] at h; omega
theorem part_digit (s : ByteArray) {t : Nat} (h : t < pn s) : isD (bt s ((number_parts.w1 s + 1 + t : Nat) : Int)) = true := by
  have h1 := pn_dot (s := s) (by omega); exact stop_digit s _ (number_parts.w1 s + 1) _ rfl (by omega) (by omega)
theorem dl_dg (s : ByteArray) : Dg (dl s) := by
  intro x hx; unfold dl at hx; rcases List.mem_append.1 hx with hx | hx
  · obtain ⟨t, ht, rfl⟩ := List.mem_map.1 hx
    have := dig_of (whole_digit s (List.mem_range.1 ht))
    omega
  obtain ⟨t, ht, rfl⟩ := List.mem_map.1 hx; have := dig_of (part_digit s (List.mem_range.1 ht))
  omega
theorem dl_len (s : ByteArray) : (dl s).length = (number_parts.w1 s - number_parts.w0 s) + pn s := by
  unfold dl; rw [List.length_append, List.length_map, List.length_range, List.length_map, List.length_range]
theorem w1pn_bd (s : ByteArray) : number_parts.w1 s + pn s ≤ s.size := by
  have := at2_bd s
  unfold pn; omega

/-! ### The exponent -/
def expF (s : ByteArray) : Nat → Nat → Int → Int
  | 0, _, n => n
  | d + 1, i, n => expF s d (i + 1) (min 1000 (10 * n + (bt s (i : Nat) - 48)))
def X (s : ByteArray) : Int := if number_parts.hasE s = true then (if bt s ((number_parts.at2 s + 1 : Nat) : Int) = 45 then - expF s (s.size - number_parts.x0 s) (number_parts.x0 s) 0 else expF s (s.size - number_parts.x0 s) (number_parts.x0 s) 0) else 0
theorem expF_bd (s : ByteArray) : ∀ (d i : Nat) (n : Int), 0 ≤ n → n ≤ 1000 → i + d = s.size → (∀ m, i ≤ m → m < s.size → isD (bt s (m : Nat)) = true) → 0 ≤ expF s d i n ∧ expF s d i n ≤ 1000
  | 0, i, n, h0, h1, hi, hd => ⟨h0, h1⟩
  | d + 1, i, n, h0, h1, hi, hd => by
    have := od_ (hd i (Nat.le_refl _) (by omega))
    exact expF_bd s d (i + 1) _ (by omega) (by omega) (by omega) (fun m hm => hd m (by omega))
theorem hasE_bd {s : ByteArray} (h : number_parts.hasE s = true) : number_parts.isE s (number_parts.at2 s) = true ∧ number_parts.at2 s + 1 ≤ number_parts.x0 s ∧ number_parts.x0 s < number_parts.x1 s ∧ number_parts.x1 s ≤ s.size ∧ number_parts.x0 s ≤ number_parts.at2 s + 2 := by
  unfold number_parts.hasE at h; rw [Bool.and_eq_true] at h; have h1 := x0_bd h.1; have h2 := x1_bd h.1; have h3 := od_ h.2; exact ⟨h.1, h1.1, h3, h2.2, h1.2.2⟩
theorem exp_digits {s : ByteArray} (h : number_parts.hasE s = true) (he : number_parts.x1 s = s.size) (m : Nat) (h1 : number_parts.x0 s ≤ m) (h2 : m < s.size) : isD (bt s (m : Nat)) = true := stop_digit s _ (number_parts.x0 s) m rfl h1 (show m < number_parts.x1 s by omega)
theorem X_bd {s : ByteArray} (he : endOf s = s.size) : -1000 ≤ X s ∧ X s ≤ 1000 := by
  unfold X; by_cases h : number_parts.hasE s = true
  · rw [if_pos h]
    unfold endOf at he; rw [if_pos h] at he; have hb := hasE_bd h; have := expF_bd s (s.size - number_parts.x0 s) (number_parts.x0 s) 0 (by omega) (by omega) (by omega) (exp_digits h he)
    split <;> omega
  rw [if_neg h]; omega
theorem bt_extract (s : ByteArray) (a j : Nat) (h : a + j < s.size) : bt (s.extract a s.size) (j : Nat) = bt s ((a + j : Nat) : Int) := by
  apply bt_of_bytes
  rw [extract_range s _ _ (Nat.le_refl _), List.getElem?_map, List.getElem?_range (by omega)]; rfl
theorem nexp_l0 (s : ByteArray) (hs : s.size ≤ 140737488351232) (a : Nat) (ha : a < s.size) (b : Bool) (p1 p2 : ByteArray) (e : Int) : ∀ (d j : Nat) (n : Int), 0 ≤ n → n ≤ 1000 → a + j + d = s.size → (∀ m, a + j ≤ m → m < s.size → isD (bt s (m : Nat)) = true) →
    Ev (fun k => number_text_exponent.l0 k n ((s.extract a s.size).size : Nat) (j : Nat) b p1 p2 (s.extract a s.size) e) (if bt s (a : Nat) = 45 then - expF s d (a + j) n else expF s d (a + j) n)
  | 0, j, n, h0, h1, hi, hd => by
    have hz : (s.extract a s.size).size = s.size - a := by rw [ByteArray.size_extract]; omega
    refine ev_step ?_
    simp only [number_text_exponent.l0]; have hne : ¬ (s.extract a s.size).toList = ([] : List UInt8) := by
      intro k; have h2 : (s.extract a s.size).data.toList = [] := by
        rw [ByteArray.toList_eq] at k; exact k
      have h3 : (s.extract a s.size).data.toList.length = s.size - a := by rw [data_length]; exact hz
      rw [h2] at h3; simp only [List.length_nil] at h3; omega
    have hb0 := bt_extract s a 0 (by omega); refine ev_neg (by omega) (ev_neg hne (ev_pos (by omega) ?_))
    rw [show bt (s.extract a s.size) 0 = bt s (a : Nat) from hb0]; refine ev_ite (fun h => ?_) (fun h => ?_)
    · rw [if_pos h, w64 (by omega) (by omega)]
      exact ev_eq rfl
    rw [if_neg h]; exact ev_eq rfl
  | d + 1, j, n, h0, h1, hi, hd => by
    have hz : (s.extract a s.size).size = s.size - a := by rw [ByteArray.size_extract]; omega
    have hD := hd (a + j) (Nat.le_refl _) (by omega); have hb := od_ hD; refine ev_step ?_
    simp only [number_text_exponent.l0]; rw [bt_extract s a j (by omega)]; refine ev_pos (by omega) (ev_pos (by omega) (ev_pos (by omega) (ev_bindc (digit_f _) (ev_pos hD ?_))))
    rw [mn_eq, w64 (x := 10 * n) (by omega) (by omega), show (bt s ((a + j : Nat) : Int) - 48) % 256 = bt s ((a + j : Nat) : Int) - 48 by omega, w64 (x := 10 * n + (bt s ((a + j : Nat) : Int) - 48)) (by omega) (by omega), w64 (x := (j : Int) + 1) (by omega) (by omega)]; exact nexp_l0 s hs a ha b p1 p2 e d (j + 1) _ (by omega) (by omega) (by omega) (fun m hm => hd m (by omega))
theorem nexp_ev (s : ByteArray) (hs : s.size ≤ 140737488351232) (he : endOf s = s.size) (b : Bool) (p1 p2 : ByteArray) (e : Int) : Ev (fun k => number_text_exponent.f k b p1 p2 (expOf s) e) (X s) := by
  unfold number_text_exponent.f X expOf; by_cases h : number_parts.hasE s = true
  · rw [if_pos h, if_pos h]
    have hb := hasE_bd h; unfold endOf at he; rw [if_pos h] at he; rw [he]; have hd := exp_digits h he; by_cases hx : number_parts.x0 s = number_parts.at2 s + 1
    · rw [hx] at hd ⊢
      exact nexp_l0 s hs (number_parts.at2 s + 1) (by omega) b p1 p2 e (s.size - (number_parts.at2 s + 1)) 0 0 (by omega) (by omega) (by omega) (fun m hm => hd m (by omega))
    have hx2 : number_parts.x0 s = number_parts.at2 s + 1 + 1 := by omega
    have hz : (s.extract (number_parts.at2 s + 1) s.size).size = s.size - (number_parts.at2 s + 1) := by rw [ByteArray.size_extract]; omega
    have hsg : isD (bt s ((number_parts.at2 s + 1 : Nat) : Int)) = false := by
      have : number_parts.isSign s (number_parts.at2 s + 1) = true := by
        by_cases k : number_parts.isSign s (number_parts.at2 s + 1) = true
        · exact k
        exfalso
        apply hx
        unfold number_parts.x0 number_parts.sgn; rw [if_neg k]
      unfold number_parts.isSign at this; simp at this
      unfold isD; apply df_
      rcases this.2 with k | k <;> rw [show ((number_parts.at2 s + 1 : Nat) : Int) = (number_parts.at2 s : Int) + 1 by omega, k] <;> omega
    refine ev_step ?_
    simp only [number_text_exponent.l0]; have hb0 := bt_extract s (number_parts.at2 s + 1) 0 (by omega); rw [show bt (s.extract (number_parts.at2 s + 1) s.size) 0 = bt s ((number_parts.at2 s + 1 : Nat) : Int) from hb0]; refine ev_pos (by omega) (ev_pos (by omega) (ev_pos (by omega) (ev_bindc (digit_f _) (ev_neg (by rw [hsg]; decide) ?_))))
    rw [hx2] at hd ⊢; rw [show wrap64 ((0 : Int) + 1) = ((1 : Nat) : Int) from w64 (by omega) (by omega)]; exact nexp_l0 s hs (number_parts.at2 s + 1) (by omega) b p1 p2 e (s.size - (number_parts.at2 s + 1 + 1)) 1 0 (by omega) (by omega) (by omega) (fun m hm => hd m (by omega))
  rw [if_neg h, if_neg h]; refine ev_step ?_
  simp only [number_text_exponent.l0]; exact ev_neg (by decide) (ev_pos (by rw [ByteArray.toList_eq]) (ev_eq rfl))

/-! ### The digits, as the document collects them -/
/-! ### The value -/
/-- What a number's text is worth. -/
def V (s : ByteArray) (sc : Int) : Int × Int :=
  if S (L (dl s).reverse * sc) ((pn s : Int) - X s) ≤ 68719476736 then (if bt s 0 = 45 then (- S (L (dl s).reverse * sc) ((pn s : Int) - X s), 0) else (S (L (dl s).reverse * sc) ((pn s : Int) - X s), 0)) else (0, 10)
theorem S_nonneg {B : Int} (h : 0 ≤ B) (b : Int) : 0 ≤ S B b := by
  unfold S; split
  · exact m10_nonneg _ h
  have := q_nonneg b.toNat h
  split <;> omega
theorem noNum_pos {s : ByteArray} (h : noNum s = false) : 0 < s.size := by
  have hw := w1_bd s; have ha := at2_bd s; rcases Nat.eq_zero_or_pos s.size with k | k
  · have : noNum s = true := by
      unfold noNum; apply dt_
      omega
    rw [this] at h; cases h
  exact k
theorem nvalue_ev (s : ByteArray) (hs : s.size ≤ 300) (sc : Int) (hsc : IsScale sc) (hn : noNum s = false) (he : endOf s = s.size) : Ev (fun k => number_Value.f k s sc) (V s sc) := by
  have hw := w1_bd s; have hp := w1pn_bd s; have hX := X_bd he; have hlen := dl_len s; have hb := hsc.bd; have hpos := noNum_pos hn; unfold number_Value.f; have h1 : number_isScale.f sc = some true := by
    rcases hsc with rfl | rfl | rfl <;> rfl
  refine ev_bindc h1 (ev_pos rfl (ev_bindc (nparts s (by omega)) ?_))
  rw [if_neg (by rw [hn]; decide)]; have hz : (s.extract (number_parts.w0 s) (number_parts.w1 s)).size = number_parts.w1 s - number_parts.w0 s := by rw [ByteArray.size_extract]; omega
  have hz2 : (number_parts.part s).size = pn s := by
    rw [← bytesOf_length, part_bytes, List.length_map, List.length_range]
  refine ev_neg (by show ¬ ((endOf s : Int) = 0 ∨ (endOf s : Int) ≠ (s.size : Int) ∨ 300 < (s.size : Int)); rw [he]; omega) (ev_pos (by show (s.extract (number_parts.w0 s) (number_parts.w1 s)).size + (number_parts.part s).size ≤ 140737488351232; rw [hz, hz2]; omega) (ev_bind (nexp_ev s (by omega) he _ _ _ _) ?_))
  rw [digs_parts, hz, w64 (by omega) (by omega)]; obtain ⟨n, ok, h2, h3, h4⟩ := scaled_ev hsc (dl s) (dl_dg s) (by omega) (((number_parts.w1 s - number_parts.w0 s : Nat) : Int) + X s) (by omega) (by omega); rw [show ((dl s).length : Int) - (((number_parts.w1 s - number_parts.w0 s : Nat) : Int) + X s) = (pn s : Int) - X s by omega] at h3 h4; have hS0 := S_nonneg (B := L (dl s).reverse * sc) (Int.mul_nonneg (L_nonneg (dl_dg s).rev) (by omega)) ((pn s : Int) - X s); refine ev_bind h2 ?_
  unfold V
  cases ok with
  | true =>
    obtain ⟨h5, h6⟩ := h3 rfl; rw [if_pos (show S (L (dl s).reverse * sc) ((pn s : Int) - X s) ≤ 68719476736 by omega), h5]; refine ev_pos rfl ?_
    have hneg : number_parts.neg s 0 = decide (bt s 0 = 45) := by
      unfold number_parts.neg number_parts.isSign; rw [dt_ hpos]; by_cases k : bt s 0 = 45
      · rw [show bt s ((0 : Nat) : Int) = 45 from k, dt_ k]
        rfl
      rw [df_ k]; have : (bt s ((0 : Nat) : Int) == 45) = false := by simpa using k
      rw [this]; simp
    rw [hneg]; refine ev_ite (fun h7 => ?_) (fun h7 => ?_)
    · rw [if_pos (od_ h7), w64 (by omega) (by omega)]
      exact ev_eq rfl
    rw [if_neg (fun k => h7 (dt_ k))]; exact ev_eq rfl
  | false =>
    have := h4 rfl
    rw [if_neg (show ¬ S (L (dl s).reverse * sc) ((pn s : Int) - X s) ≤ 68719476736 by omega)]; exact ev_neg (by simp) (ev_eq rfl)
/-- Both, of any text and by any scale. -/
def Val (s : ByteArray) (sc : Int) : Int × Int := if sc = 1 ∨ sc = 64 ∨ sc = 1000 then (if noNum s = true ∨ endOf s ≠ s.size ∨ 300 < s.size then (0, 21) else V s sc) else (0, 2)
theorem nVal (s : ByteArray) (hs : s.size ≤ 2000) (sc : Int) : Ev (fun k => number_Value.f k s sc) (Val s sc) := by
  unfold Val; by_cases h : sc = 1 ∨ sc = 64 ∨ sc = 1000
  · rw [if_pos h]
    by_cases h2 : noNum s = true ∨ endOf s ≠ s.size ∨ 300 < s.size
    · rw [if_pos h2]
      unfold number_Value.f; have h1 : number_isScale.f sc = some true := by
        rcases h with rfl | rfl | rfl <;> rfl
      refine ev_bindc h1 (ev_pos rfl (ev_bindc (nparts s (by omega)) ?_))
      by_cases h3 : noNum s = true
      · rw [if_pos h3]
        exact ev_pos (Or.inl rfl) (ev_eq rfl)
      rw [if_neg h3]; refine ev_pos ?_ (ev_eq rfl)
      rcases h2 with k | k | k
      · exact absurd k h3
      · exact Or.inr (Or.inl (by show (endOf s : Int) ≠ _; omega))
      exact Or.inr (Or.inr (by omega))
    rw [if_neg h2]; by_cases h3 : noNum s = true
    · exact absurd (Or.inl h3) h2
    by_cases h4 : endOf s = s.size
    · exact nvalue_ev s (by omega) sc h (by simpa using h3) h4
    exact absurd (Or.inr (Or.inl h4)) h2
  rw [if_neg h]; unfold number_Value.f; have h1 : number_isScale.f sc = some false := by
    unfold number_isScale.f; rw [if_neg (fun k => h (Or.inl k)), if_neg (fun k => h (Or.inr (Or.inl k)))]; rw [show (sc == 1000) = false by simpa using (fun k => h (Or.inr (Or.inr k)))]
  exact ev_bindc h1 (ev_neg (by decide) (ev_eq rfl))
end Go.Proofs.YtofdhdafabmhmaaDoor.PureTw
end
section
/- The value of a text that is a sign, digits, a point and digits, an exponent. Conditions: as each statement says. -/
namespace Go.Proofs.YtofdhdafabmhmaaDoor.PureSh
open Go.RowKit Go.Proofs.YtofdhdafabmhmaaDoorW.PrintWords Go.Proofs.YtofdhdafabmhmaaDoorW.PrintMore Go.Proofs.YtofdhdafabmhmaaDoor.Evs Go.Proofs.YtofdhdafabmhmaaDoor.Opn Go.Proofs.YtofdhdafabmhmaaDoor.PLf4 Go.Proofs.YtofdhdafabmhmaaDoor.Dig Go.Proofs.YtofdhdafabmhmaaDoor.PureTu Go.Proofs.YtofdhdafabmhmaaDoor.PureTv Go.Proofs.YtofdhdafabmhmaaDoor.PureTw
/-! ### Bytes by lists -/
theorem get_mid (A D R : List Int) (i : Nat) (h : i < D.length) : (A ++ (D ++ R))[A.length + i]? = D[i]? := by
  rw [List.getElem?_append_right (by omega), Nat.add_sub_cancel_left, List.getElem?_append_left h]
theorem get_end (A D R : List Int) (i : Nat) : (A ++ (D ++ R))[A.length + D.length + i]? = R[i]? := by
  rw [List.getElem?_append_right (by omega), List.getElem?_append_right (by omega)]; congr 1
  omega
theorem size_of {s : ByteArray} {l : List Int} (h : bytesOf s = l) : s.size = l.length := by rw [← h, bytesOf_length]
theorem bt_mid {s : ByteArray} {A D R : List Int} (h : bytesOf s = A ++ (D ++ R)) (i : Nat) (hi : i < D.length) : bt s ((A.length + i : Nat) : Int) = D[i] := by
  apply bt_of_bytes
  rw [h, get_mid A D R i hi, List.getElem?_eq_getElem hi]
theorem bt_end {s : ByteArray} {A D : List Int} {c : Int} {R : List Int} (h : bytesOf s = A ++ (D ++ c :: R)) : bt s ((A.length + D.length : Nat) : Int) = c := by
  apply bt_of_bytes
  rw [h]; have := get_end A D (c :: R) 0
  rw [Nat.add_zero] at this; rw [this]; rfl
theorem bt_at0 {s : ByteArray} {A : List Int} {c : Int} {R : List Int} (h : bytesOf s = A ++ c :: R) : bt s ((A.length : Nat) : Int) = c := by
  have := bt_end (A := A) (D := []) (c := c) (R := R) h
  simpa using this
def AllD (l : List Int) : Prop := ∀ c ∈ l, isD c = true
theorem AllD.app {a b : List Int} (h : AllD a) (k : AllD b) : AllD (a ++ b) := fun c hc => by
  rcases List.mem_append.1 hc with hc | hc
  · exact h c hc
  exact k c hc
theorem AllD.nil : AllD [] := fun c h => by cases h
theorem stop_list {s : ByteArray} {A D R : List Int} (h : bytesOf s = A ++ (D ++ R)) (hD : AllD D) (hR : ∀ c R', R = c :: R' → isD c = false) : number_parts.stop s A.length = A.length + D.length := by
  have hz := size_of h; simp only [List.length_append] at hz; refine stop_eq s _ A.length (A.length + D.length) rfl (by omega) (by omega) (fun m h1 h2 => ?_) (fun h1 => ?_)
  · obtain ⟨i, rfl⟩ := Nat.exists_eq_add_of_le h1
    rw [bt_mid h i (by omega)]; exact hD _ (List.getElem_mem _)
  match R, h, hR with
  | [], h, hR => simp only [List.length_nil] at hz; omega
  | c :: R', h, hR =>
    rw [bt_end h]; exact hR c R' rfl
theorem sgn_list {s : ByteArray} {A sg R : List Int} (h : bytesOf s = A ++ (sg ++ R)) (hs : sg = [] ∨ sg = [43] ∨ sg = [45]) (hR : ∀ c R', R = c :: R' → c ≠ 43 ∧ c ≠ 45) : number_parts.sgn s A.length = A.length + sg.length := by
  have hz := size_of h; simp only [List.length_append] at hz; unfold number_parts.sgn number_parts.isSign; rcases hs with rfl | rfl | rfl
  · match R, h, hR with
    | [], h, hR =>
      rw [df_ (by simp only [List.length_nil] at hz; omega)]; rfl
    | c :: R', h, hR =>
      rw [bt_at0 h]; have := hR c R' rfl
      rw [show (c == 43) = false by simpa using this.1, show (c == 45) = false by simpa using this.2]; simp
  · rw [bt_at0 h, dt_ (by simp only [List.length_cons] at hz; omega)]
    rfl
  rw [bt_at0 h, dt_ (by simp only [List.length_cons] at hz; omega)]; rfl
theorem dig_mid {s : ByteArray} {A D R : List Int} (h : bytesOf s = A ++ (D ++ R)) : ((List.range D.length).map fun t => dig (bt s ((A.length + t : Nat) : Int))) = D.map dig := by
  apply List.ext_getElem?
  intro i; by_cases hi : i < D.length
  · rw [List.getElem?_map, List.getElem?_range hi, List.getElem?_map, List.getElem?_eq_getElem hi]
    show some (dig (bt s ((A.length + i : Nat) : Int))) = _
    rw [bt_mid h i hi]; rfl
  rw [List.getElem?_eq_none (by rw [List.length_map, List.length_range]; omega), List.getElem?_eq_none (by rw [List.length_map]; omega)]

/-! ### The shape -/
def expL : List Int → Int → Int
  | [], n => n
  | c :: cs, n => expL cs (min 1000 (10 * n + (c - 48)))
theorem expF_list {s : ByteArray} : ∀ (D A : List Int) (n : Int), bytesOf s = A ++ D → expF s D.length A.length n = expL D n
  | [], A, n, h => rfl
  | c :: D, A, n, h => by
    show expF s D.length (A.length + 1) (min 1000 (10 * n + (bt s (A.length : Nat) - 48))) = expL D (min 1000 (10 * n + (c - 48)))
    rw [bt_at0 h]; have := expF_list D (A ++ [c]) (min 1000 (10 * n + (c - 48))) (by rw [h]; simp)
    rw [List.length_append] at this; exact this
def IsSg (sg : List Int) : Prop := sg = [] ∨ sg = [43] ∨ sg = [45]
/-- An exponent, and what it is worth. -/
def IsExp (E : List Int) (x : Int) : Prop := (E = [] ∧ x = 0) ∨ ∃ e sg xs, E = e :: (sg ++ xs) ∧ (e = 101 ∨ e = 69) ∧ IsSg sg ∧ xs ≠ [] ∧ AllD xs ∧ x = if sg = [45] then - expL xs 0 else expL xs 0
def pt (ds : List Int) : List Int := if ds = [] then [] else 46 :: ds
structure Sh (s : ByteArray) (sg W ds E : List Int) (x : Int) : Prop where
  b : bytesOf s = sg ++ (W ++ (pt ds ++ E))
  hs : IsSg sg
  hW : AllD W
  hds : AllD ds
  hE : IsExp E x
  ne : W ≠ [] ∨ ds ≠ []
theorem isD_sign {c : Int} (h : isD c = true) : c ≠ 43 ∧ c ≠ 45 ∧ c ≠ 46 ∧ c ≠ 101 ∧ c ≠ 69 := by
  have := od_ h
  omega
theorem IsExp.head {E : List Int} {x : Int} (h : IsExp E x) : ∀ c R, E = c :: R → c = 101 ∨ c = 69 := by
  intro c R hc; rcases h with ⟨rfl, _⟩ | ⟨e, sg, xs, rfl, he, _⟩
  · cases hc
  cases hc
  exact he
theorem not_isD {c : Int} (h : c = 46 ∨ c = 101 ∨ c = 69 ∨ c = 43 ∨ c = 45) : isD c = false := by
  unfold isD; apply df_
  omega
namespace Sh
variable {s : ByteArray} {sg W ds E : List Int} {x : Int}
theorem w0 (h : Sh s sg W ds E x) : number_parts.w0 s = sg.length := by
  have := sgn_list (A := []) (sg := sg) (R := W ++ (pt ds ++ E)) (s := s) h.b h.hs ?_
  · unfold number_parts.w0
    simpa using this
  intro c R hc; match W, h.hW, h.ne, hc with
  | w :: W', hW, _, hc =>
    cases hc
    have := isD_sign (hW _ List.mem_cons_self)
    exact ⟨this.1, this.2.1⟩
  | [], _, hne, hc =>
    have hd : ds ≠ [] := by rcases hne with k | k; · exact absurd rfl k
                            exact k
    unfold pt at hc; rw [if_neg hd] at hc; cases hc
    decide
theorem rest_head (h : Sh s sg W ds E x) : ∀ c R, pt ds ++ E = c :: R → c = 46 ∨ c = 101 ∨ c = 69 := by
  intro c R hc; unfold pt at hc; by_cases hd : ds = []
  · rw [if_pos hd] at hc
    exact Or.inr (h.hE.head c R hc)
  rw [if_neg hd] at hc; cases hc
  exact Or.inl rfl
theorem w1 (h : Sh s sg W ds E x) : number_parts.w1 s = sg.length + W.length := by
  unfold number_parts.w1; rw [h.w0]; refine stop_list h.b h.hW (fun c R hc => not_isD ?_)
  have := h.rest_head c R hc
  omega
theorem b2 (h : Sh s sg W ds E x) : bytesOf s = (sg ++ W) ++ (pt ds ++ E) := by rw [h.b, List.append_assoc]
theorem l2 (sg W : List Int) : (sg ++ W).length = sg.length + W.length := List.length_append
theorem size (h : Sh s sg W ds E x) : s.size = sg.length + W.length + ((pt ds).length + E.length) := by
  rw [size_of h.b2]; simp only [List.length_append]
theorem at2 (h : Sh s sg W ds E x) : number_parts.at2 s = sg.length + W.length + (pt ds).length := by
  have hz := h.size; by_cases hd : ds = []
  · have hp : pt ds = [] := by unfold pt; rw [if_pos hd]
    have hdot : number_parts.isDot s (number_parts.w1 s) = false := by
      unfold number_parts.isDot; rw [h.w1]; match E, h, hz with
      | [], h, hz =>
        rw [df_ (by rw [hp] at hz; simp only [List.length_nil] at hz; omega)]; rfl
      | e :: E', h, hz =>
        have hb := h.b2; rw [hp, List.nil_append] at hb; have := bt_at0 hb
        rw [l2] at this; rw [this]; have he := h.hE.head e E' rfl; rw [show (e == 46) = false by simp; omega]; simp
    unfold number_parts.at2; rw [if_neg (by rw [hdot]; decide), h.w1, hp]; rfl
  have hp : pt ds = 46 :: ds := by unfold pt; rw [if_neg hd]
  have hlen := List.length_pos_iff.2 hd; have hb := h.b2; rw [hp] at hb; have hdot : number_parts.isDot s (number_parts.w1 s) = true := by
    unfold number_parts.isDot; rw [h.w1]; have := bt_at0 (A := sg ++ W) (c := 46) (R := ds ++ E) (s := s) hb
    rw [l2] at this; rw [this, dt_ (by rw [hp] at hz; simp only [List.length_cons] at hz; omega)]; rfl
  have hb3 : bytesOf s = (sg ++ W ++ [46]) ++ (ds ++ E) := by rw [hb]; simp
  have hl3 : (sg ++ W ++ [46]).length = sg.length + W.length + 1 := by simp only [List.length_append, List.length_cons, List.length_nil]
  have hst := stop_list hb3 h.hds (fun c R hc => not_isD (Or.inr (by have := h.hE.head c R hc; omega))); rw [hl3] at hst; unfold number_parts.at2 number_parts.p1; rw [if_pos hdot, if_pos hdot, h.w1, hst, if_neg (by omega), hp, List.length_cons]; omega
theorem pt_len (ds : List Int) : (pt ds).length = if ds = [] then 0 else ds.length + 1 := by
  unfold pt; split <;> simp
theorem pn_eq (h : Sh s sg W ds E x) : pn s = ds.length := by
  unfold pn; rw [h.at2, h.w1, pt_len]; by_cases hd : ds = []
  · rw [if_pos hd, hd]
    simp
  rw [if_neg hd]; omega
theorem dl_eq (h : Sh s sg W ds E x) : dl s = (W ++ ds).map dig := by
  unfold dl; rw [h.w1, h.w0, h.pn_eq, Nat.add_sub_cancel_left, List.map_append, dig_mid h.b]; congr 1
  by_cases hd : ds = []
  · rw [hd]
    rfl
  have hp : pt ds = 46 :: ds := by unfold pt; rw [if_neg hd]
  have hb := h.b2; rw [hp] at hb; have hb3 : bytesOf s = (sg ++ W ++ [46]) ++ (ds ++ E) := by rw [hb]; simp
  have hl3 : (sg ++ W ++ [46]).length = sg.length + W.length + 1 := by simp only [List.length_append, List.length_cons, List.length_nil]
  have := dig_mid hb3
  rw [hl3] at this; exact this
theorem noNum_eq (h : Sh s sg W ds E x) : noNum s = false := by
  unfold noNum; apply df_
  rw [h.w1, h.w0, h.at2, pt_len]; intro k; rcases h.ne with k1 | k1
  · have := List.length_pos_iff.2 k1
    omega
  rw [if_neg k1] at k; omega
/-- The exponent, and the end. -/
theorem exp (h : Sh s sg W ds E x) : endOf s = s.size ∧ X s = x := by
  have hz := h.size; have ha := h.at2; have hl3 : (sg ++ W ++ pt ds).length = sg.length + W.length + (pt ds).length := by simp only [List.length_append]
  have hb : bytesOf s = (sg ++ W ++ pt ds) ++ E := by rw [h.b]; simp
  rcases h.hE with ⟨rfl, rfl⟩ | ⟨e, sE, xs, rfl, he, hsE, hxs, hxd, rfl⟩
  · have hE : number_parts.hasE s = false := by
      unfold number_parts.hasE number_parts.isE; rw [ha, df_ (by simp only [List.length_nil] at hz; omega)]; rfl
    unfold endOf X; rw [if_neg (by rw [hE]; decide), if_neg (by rw [hE]; decide), ha]; exact ⟨by simp only [List.length_nil] at hz; omega, rfl⟩
  have hb4 : bytesOf s = (sg ++ W ++ pt ds ++ [e]) ++ (sE ++ xs) := by rw [hb]; simp
  have hl4 : (sg ++ W ++ pt ds ++ [e]).length = number_parts.at2 s + 1 := by rw [List.length_append, hl3, ha]; rfl
  have hb5 : bytesOf s = (sg ++ W ++ pt ds ++ [e] ++ sE) ++ (xs ++ []) := by rw [hb4]; simp
  have hl5 : (sg ++ W ++ pt ds ++ [e] ++ sE).length = number_parts.at2 s + 1 + sE.length := by rw [List.length_append, hl4]
  have hlen := List.length_pos_iff.2 hxs; have hisE : number_parts.isE s (number_parts.at2 s) = true := by
    unfold number_parts.isE; have := bt_at0 hb
    rw [hl3, ← ha] at this; rw [this, dt_ (by simp only [List.length_cons] at hz; omega)]; rcases he with rfl | rfl <;> rfl
  have hx0 : number_parts.x0 s = number_parts.at2 s + 1 + sE.length := by
    unfold number_parts.x0; rw [← hl4]; refine sgn_list hb4 hsE (fun c R hc => ?_)
    have := isD_sign (hxd c (by rw [hc]; exact List.mem_cons_self))
    exact ⟨this.1, this.2.1⟩
  have hx1 : number_parts.x1 s = number_parts.at2 s + 1 + sE.length + xs.length := by
    unfold number_parts.x1; rw [hx0, ← hl5]; exact stop_list hb5 hxd (fun c R hc => by cases hc)
  have hsz : s.size = number_parts.at2 s + 1 + sE.length + xs.length := by
    rw [hz, ha]; simp only [List.length_cons, List.length_append]; omega
  have hE : number_parts.hasE s = true := by
    unfold number_parts.hasE; rw [hisE, dt_ (by omega)]; rfl
  unfold endOf X; rw [if_pos hE, if_pos hE]; refine ⟨by omega, ?_⟩
  have hex : expF s (s.size - number_parts.x0 s) (number_parts.x0 s) 0 = expL xs 0 := by
    have := expF_list (s := s) xs (sg ++ W ++ pt ds ++ [e] ++ sE) 0 (by rw [hb5]; simp)
    rw [hl5, ← hx0] at this; rw [show s.size - number_parts.x0 s = xs.length by omega]; exact this
  rw [hex]; have hbt : bt s ((number_parts.at2 s + 1 : Nat) : Int) = 45 ↔ sE = [45] := by
    rw [← hl4]; match xs, hxd, hxs, hb4 with
    | y :: ys, hxd, _, hb4 =>
      rcases hsE with rfl | rfl | rfl
      · rw [bt_at0 hb4]
        have := isD_sign (hxd y List.mem_cons_self)
        exact ⟨fun k => absurd k this.2.1, fun k => by cases k⟩
      · rw [bt_at0 hb4]
        decide
      rw [bt_at0 hb4]; decide
  by_cases k : sE = [45]
  · rw [if_pos k, if_pos (hbt.2 k)]
  rw [if_neg k, if_neg (fun j => k (hbt.1 j))]
theorem neg (h : Sh s sg W ds E x) : bt s 0 = 45 ↔ sg = [45] := by
  have hb := h.b; rcases h.hs with rfl | rfl | rfl
  · refine ⟨fun k => ?_, fun k => by cases k⟩
    exfalso
    match W, h, hb with
    | w :: W', h, hb =>
      have := bt_at0 (A := []) hb
      have h2 := isD_sign (h.hW w List.mem_cons_self); exact h2.2.1 (this.symm.trans k)
    | [], h, hb =>
      have hd : ds ≠ [] := by
        rcases h.ne with k | k
        · exact absurd rfl k
        exact k
      have hp : pt ds = 46 :: ds := by unfold pt; rw [if_neg hd]
      rw [hp] at hb; have := bt_at0 (A := []) hb
      have h2 : (46 : Int) = 45 := this.symm.trans k; omega
  · have := bt_at0 (A := []) hb
    have h2 : bt s 0 = 43 := this; rw [h2]; decide
  have := bt_at0 (A := []) hb
  have h2 : bt s 0 = 45 := this; rw [h2]; decide
end Sh
def fo (A : Int) (l : List Int) : Int := l.foldl (fun a d => 10 * a + d) A
theorem Lw_app (W : Int) : ∀ (a b : List Int), Lw (a ++ b) W = Lw a (Lw b W)
  | [], b => rfl
  | x :: a, b => by
    show x + 10 * Lw (a ++ b) W = x + 10 * Lw a (Lw b W)
    rw [Lw_app W a b]
theorem Lw_rev : ∀ (l : List Int) (A : Int), Lw l.reverse A = fo A l
  | [], A => rfl
  | x :: xs, A => by
    rw [List.reverse_cons, Lw_app, Lw_rev xs]; show fo (x + 10 * A) xs = fo (10 * A + x) xs
    rw [Int.add_comm]
theorem L_rev (l : List Int) : L l.reverse = fo 0 l := by rw [← Lw_zero, Lw_rev]
theorem fo_app (A : Int) (a b : List Int) : fo A (a ++ b) = fo (fo A a) b := List.foldl_append
/-- What a text of this shape is worth. -/
theorem Sh.val {s : ByteArray} {sg W ds E : List Int} {x : Int} (h : Sh s sg W ds E x) (hz : s.size ≤ 300) {sc : Int} (hsc : IsScale sc) :
    Val s sc = if S (fo 0 ((W ++ ds).map dig) * sc) ((ds.length : Int) - x) ≤ 68719476736 then (if sg = [45] then (- S (fo 0 ((W ++ ds).map dig) * sc) ((ds.length : Int) - x), 0) else (S (fo 0 ((W ++ ds).map dig) * sc) ((ds.length : Int) - x), 0)) else (0, 10) := by
  have he := h.exp; have hn := h.noNum_eq; unfold Val; rw [if_pos (show sc = 1 ∨ sc = 64 ∨ sc = 1000 from hsc), if_neg (by rw [hn, he.1]; simp; exact hz)]; unfold V; rw [h.dl_eq, h.pn_eq, he.2, L_rev]; by_cases k : S (fo 0 ((W ++ ds).map dig) * sc) ((ds.length : Int) - x) ≤ 68719476736
  · rw [if_pos k, if_pos k]
    by_cases k2 : sg = [45]
    · rw [if_pos k2, if_pos (h.neg.2 k2)]
    rw [if_neg k2, if_neg (fun j => k2 (h.neg.1 j))]
  rw [if_neg k, if_neg k]
/-- So many noughts more, and the point as far behind: no other value. -/
theorem S_m10 {B : Int} (hB : 0 ≤ B) (j : Nat) : S (m10 B j) (j : Int) = B := by
  unfold S; rw [if_neg (by omega), Int.toNat_natCast, q_m10]
  cases j with
  | zero =>
    rw [if_neg (by omega)]; omega
  | succ j =>
    rw [Nat.add_sub_cancel]; have : q (m10 B (j + 1)) j = 10 * B := by
      show q (m10 (10 * B) j) j = 10 * B
      exact q_m10 j _
    rw [this, if_neg (by omega)]; omega
end Go.Proofs.YtofdhdafabmhmaaDoor.PureSh
end
section
/- Numbers' texts (layer 2): by the program and by the document. Conditions: as each statement says. -/
namespace Go.Proofs.YtofdhdafabmhmaaDoor.PureTx
open Go.RowKit Go.Proofs.YtofdhdafabmhmaaDoorW.PrintWords Go.Proofs.YtofdhdafabmhmaaDoorW.PrintMore Go.Proofs.YtofdhdafabmhmaaDoor.Evs Go.Proofs.YtofdhdafabmhmaaDoor.Opn Go.Proofs.YtofdhdafabmhmaaDoor.PLf4 Go.Proofs.YtofdhdafabmhmaaDoor.Giv
def dec (n : Int) : ByteArray := ⟨(Lib.decDigits n.toNat).toArray⟩
def fr (sc : Int) : Nat → Int → ByteArray
  | 0, _ => ⟨#[]⟩
  | j + 1, left => if left > 0 then dec (10 * left / sc) ++ fr sc j (10 * left % sc) else ⟨#[]⟩
def gone (sc : Int) : Nat → Int → Bool
  | 0, left => decide (left = 0)
  | j + 1, left => gone sc j (10 * left % sc)
theorem gone_zero (sc : Int) : ∀ j, gone sc j 0 = true
  | 0 => rfl
  | j + 1 => by
    show gone sc j (10 * 0 % sc) = true
    rw [Int.mul_zero, Int.zero_emod]; exact gone_zero sc j
theorem gone_all64 : (List.range 64).all (fun n => gone 64 6 (n : Int)) = true := by decide +kernel
theorem gone_all1000 : (List.range 1000).all (fun n => gone 1000 6 (n : Int)) = true := by decide +kernel
def IsScale (sc : Int) : Prop := sc = 1 ∨ sc = 64 ∨ sc = 1000
theorem gone_of {sc : Int} (hs : IsScale sc) {left : Int} (h0 : 0 ≤ left) (h1 : left < sc) : gone sc 6 left = true := by
  obtain ⟨n, rfl⟩ := Int.eq_ofNat_of_zero_le h0; rcases hs with rfl | rfl | rfl
  · obtain rfl : n = 0 := by omega
    exact gone_zero 1 6
  · exact List.all_eq_true.1 gone_all64 n (List.mem_range.2 (by omega))
  exact List.all_eq_true.1 gone_all1000 n (List.mem_range.2 (by omega))
theorem nd_le : ∀ (k u : Nat), u < 10 ^ (k + 1) → Lib.nDigits u ≤ k + 1
  | 0, u, h => by
    rw [Lib.nDigits_small (by simpa using h)]; exact Nat.le_refl _
  | k + 1, u, h => by
    by_cases h1 : u < 10
    · rw [Lib.nDigits_small h1]
      omega
    rw [Lib.nDigits_big h1]; have := nd_le k (u / 10) (by rw [Nat.pow_succ] at h; omega)
    omega
theorem dec_size (n : Int) (h0 : 0 ≤ n) (h1 : n ≤ 9223372036854775807) : (dec n).size ≤ 20 := by
  show (Lib.decDigits n.toNat).toArray.size ≤ 20
  rw [List.size_toArray, Lib.decDigits_length]; exact nd_le 19 _ (by omega)
theorem dec_one (n : Int) (h0 : 0 ≤ n) (h1 : n ≤ 9) : dec n = ⟨#[UInt8.ofNat (48 + n.toNat)]⟩ := by
  unfold dec; rw [Lib.decDigits_one (by omega)]
theorem ap_nil (a : ByteArray) : a ++ (⟨#[]⟩ : ByteArray) = a := ByteArray.append_empty
theorem nil_ap (a : ByteArray) : (⟨#[]⟩ : ByteArray) ++ a = a := ByteArray.empty_append
theorem left_bd {sc left : Int} (hs : IsScale sc) (h0 : 0 ≤ left) (h1 : left < sc) : 0 ≤ 10 * left / sc ∧ 10 * left / sc ≤ 9 ∧ 0 ≤ 10 * left % sc ∧ 10 * left % sc < sc := by
  rcases hs with rfl | rfl | rfl <;> omega
theorem digit_size {n : Int} (h0 : 0 ≤ n) (h1 : n ≤ 9) : (dec n).size = 1 := by
  rw [dec_one n h0 h1]; rfl
theorem fr_size {sc : Int} (hs : IsScale sc) : ∀ (j : Nat) (left : Int), 0 ≤ left → left < sc → (fr sc j left).size ≤ j
  | 0, left, h0, h1 => Nat.le_refl _
  | j + 1, left, h0, h1 => by
    have hb := left_bd hs h0 h1; have hi := fr_size hs j _ hb.2.2.1 hb.2.2.2; unfold fr; split
    · rw [ByteArray.size_append, digit_size hb.1 hb.2.1]
      omega
    show 0 ≤ j + 1
    omega
/-- A length's text: its sign, its whole digits, those behind the point. -/
def tail (sc n : Int) : ByteArray := if n % sc > 0 then (⟨#[46]⟩ : ByteArray) ++ fr sc 6 (n % sc) else ⟨#[]⟩
def body (sc n : Int) : ByteArray := dec (n / sc) ++ tail sc n
def txt (sc n : Int) : ByteArray := if n < 0 then (⟨#[45]⟩ : ByteArray) ++ body sc (-n) else body sc n
theorem div_bd {sc n : Int} (hs : IsScale sc) (h0 : 0 ≤ n) (h1 : n ≤ 68719476736) : 0 ≤ n / sc ∧ n / sc ≤ 68719476736 ∧ 0 ≤ n % sc ∧ n % sc < sc := by
  rcases hs with rfl | rfl | rfl <;> omega
def Is (n : Int) : Prop := -68719476736 ≤ n ∧ n ≤ 68719476736
instance (n : Int) : Decidable (Is n) := inferInstanceAs (Decidable (_ ∧ _))
instance (n : Int) : Decidable (IsScale n) := inferInstanceAs (Decidable (_ ∨ _ ∨ _))
/-- The text, of any number and by any scale. -/
def Txt (n sc : Int) : ByteArray := if Is n ∧ IsScale sc then txt sc n else ⟨#[]⟩
end Go.Proofs.YtofdhdafabmhmaaDoor.PureTx
end
section
/- Numbers' texts, and what they are worth. Conditions: as each statement says. -/
namespace Go.Proofs.YtofdhdafabmhmaaDoor.PureSt
open Go.RowKit Go.Proofs.YtofdhdafabmhmaaDoorW.PrintWords Go.Proofs.YtofdhdafabmhmaaDoorW.PrintMore Go.Proofs.YtofdhdafabmhmaaDoor.Evs Go.Proofs.YtofdhdafabmhmaaDoor.Opn Go.Proofs.YtofdhdafabmhmaaDoor.PLf4 Go.Proofs.YtofdhdafabmhmaaDoor.Dig Go.Proofs.YtofdhdafabmhmaaDoor.PureTu Go.Proofs.YtofdhdafabmhmaaDoor.PureTw Go.Proofs.YtofdhdafabmhmaaDoor.PureSh
open Go.Proofs.YtofdhdafabmhmaaDoor.PureTx (dec fr gone body tail txt Txt)
theorem bytes_mk (l : List UInt8) : bytesOf ⟨l.toArray⟩ = l.map fun b => (b.toNat : Int) := rfl
theorem byte_of {n : Nat} (h : n ≤ 9) : ((UInt8.ofNat (48 + n)).toNat : Int) = 48 + n := by
  rw [UInt8.toNat_ofNat']; omega
theorem dec_small {n : Int} (h0 : 0 ≤ n) (h1 : n ≤ 9) : bytesOf (dec n) = [48 + n] := by
  rw [PureTx.dec_one n h0 h1]; show [((UInt8.ofNat (48 + n.toNat)).toNat : Int)] = _
  rw [byte_of (by omega), Int.toNat_of_nonneg h0]
theorem dec_big {n : Int} (h : 10 ≤ n) : bytesOf (dec n) = bytesOf (dec (n / 10)) ++ [48 + n % 10] := by
  unfold dec; rw [bytes_mk, bytes_mk]; conv => lhs; rw [Lib.decDigits, dif_neg (show ¬ n.toNat < 10 by omega)]
  rw [List.map_append, show (n / 10).toNat = n.toNat / 10 by omega]; congr 1
  show [((UInt8.ofNat (48 + n.toNat % 10)).toNat : Int)] = _
  rw [byte_of (by omega), show ((n.toNat % 10 : Nat) : Int) = n % 10 by omega]
theorem isD_of {c : Int} (h0 : 48 ≤ c) (h1 : c ≤ 57) : isD c = true := dt_ ⟨h0, h1⟩
theorem dig_of' {d : Int} (h0 : 0 ≤ d) (h1 : d ≤ 9) : dig (48 + d) = d := by
  unfold dig; omega
theorem dec_all : ∀ (m : Nat) (n : Int), n.toNat = m → 0 ≤ n → AllD (bytesOf (dec n)) ∧ bytesOf (dec n) ≠ [] ∧ fo 0 ((bytesOf (dec n)).map dig) = n := by
  intro m; induction m using Nat.strongRecOn with
  | _ m ih =>
    intro n hm h0; by_cases h : n ≤ 9
    · rw [dec_small h0 h]
      refine ⟨fun c hc => ?_, by simp, ?_⟩
      · obtain rfl := List.mem_singleton.1 hc
        exact isD_of (by omega) (by omega)
      show 10 * 0 + dig (48 + n) = n
      rw [dig_of' h0 h]; omega
    have hi := ih (n / 10).toNat (by omega) (n / 10) rfl (by omega); rw [dec_big (by omega)]; refine ⟨hi.1.app (fun c hc => ?_), by simp, ?_⟩
    · obtain rfl := List.mem_singleton.1 hc
      exact isD_of (by omega) (by omega)
    rw [List.map_append, fo_app, hi.2.2]; show 10 * (n / 10) + dig (48 + n % 10) = n
    rw [dig_of' (by omega) (by omega)]; omega
theorem dec_D {n : Int} (h : 0 ≤ n) : AllD (bytesOf (dec n)) := (dec_all _ n rfl h).1
theorem dec_ne {n : Int} (h : 0 ≤ n) : bytesOf (dec n) ≠ [] := (dec_all _ n rfl h).2.1
theorem dec_fo {n : Int} (h : 0 ≤ n) : fo 0 ((bytesOf (dec n)).map dig) = n := (dec_all _ n rfl h).2.2
theorem fr_D {sc : Int} (hs : PureTx.IsScale sc) : ∀ (j : Nat) (left : Int), 0 ≤ left → left < sc → AllD (bytesOf (fr sc j left))
  | 0, left, h0, h1 => AllD.nil
  | j + 1, left, h0, h1 => by
    have hb := PureTx.left_bd hs h0 h1; unfold fr; split
    · rw [bytes_app]
      exact (dec_D hb.1).app (fr_D hs j _ hb.2.2.1 hb.2.2.2)
    exact AllD.nil
theorem fr_val {sc : Int} (hs : PureTx.IsScale sc) : ∀ (j : Nat) (left A : Int), 0 ≤ left → left < sc → gone sc j left = true → fo A ((bytesOf (fr sc j left)).map dig) * sc = m10 (A * sc + left) (bytesOf (fr sc j left)).length
  | 0, left, A, h0, h1, hg => by
    have hl : left = 0 := od_ hg; subst hl; show A * sc = A * sc + 0
    omega
  | j + 1, left, A, h0, h1, hg => by
    have hb := PureTx.left_bd hs h0 h1; have hi := fr_val hs j (10 * left % sc) (10 * A + 10 * left / sc) hb.2.2.1 hb.2.2.2 hg; unfold fr; by_cases h2 : left > 0
    · rw [if_pos h2, bytes_app, dec_small hb.1 hb.2.1]
      show fo (10 * A + dig (48 + 10 * left / sc)) ((bytesOf (fr sc j (10 * left % sc))).map dig) * sc = m10 (10 * (A * sc + left)) (bytesOf (fr sc j (10 * left % sc))).length
      rw [dig_of' hb.1 hb.2.1, hi]; congr 1
      have e := Int.mul_ediv_add_emod (10 * left) sc; rw [Int.add_mul, Int.mul_assoc, Int.mul_comm (10 * left / sc) sc]; omega
    have hl : left = 0 := by omega
    subst hl; rw [if_neg h2]; show A * sc = A * sc + 0
    omega
theorem fr_zero (sc : Int) (j : Nat) : fr sc j 0 = ⟨#[]⟩ := by
  cases j with
  | zero => rfl
  | succ j =>
    unfold fr; rw [if_neg (by omega)]
theorem tail_pt {sc : Int} (hs : PureTx.IsScale sc) {n : Int} (h0 : 0 ≤ n) (h1 : n ≤ 68719476736) : bytesOf (tail sc n) = pt (bytesOf (fr sc 6 (n % sc))) := by
  have hb := PureTx.div_bd hs h0 h1; unfold tail pt; by_cases h : n % sc > 0
  · rw [if_pos h, if_neg, bytes_app]
    · rfl
    unfold fr; rw [if_pos h, bytes_app]; intro k; have := List.append_eq_nil_iff.1 k
    exact dec_ne (PureTx.left_bd hs hb.2.2.1 hb.2.2.2).1 this.1
  have e : n % sc = 0 := by omega
  rw [if_neg h, e, fr_zero, if_pos (show bytesOf (⟨#[]⟩ : ByteArray) = [] from rfl)]; rfl
/-- A length's text behind a sign. -/
theorem text_sh {sc : Int} (hs : PureTx.IsScale sc) {n : Int} (h0 : 0 ≤ n) (h1 : n ≤ 68719476736) (p : ByteArray) (sg : List Int) (hp : bytesOf p = sg) (hsg : IsSg sg) :
    Sh (p ++ body sc n) sg (bytesOf (dec (n / sc))) (bytesOf (fr sc 6 (n % sc))) [] 0 := by
  have hb := PureTx.div_bd hs h0 h1; refine ⟨?_, hsg, dec_D hb.1, fr_D hs 6 _ hb.2.2.1 hb.2.2.2, Or.inl ⟨rfl, rfl⟩, Or.inl (dec_ne hb.1)⟩
  unfold body; rw [bytes_app, bytes_app, hp, tail_pt hs h0 h1, List.append_nil]
theorem text_val {sc : Int} (hs : PureTx.IsScale sc) {n : Int} (h0 : 0 ≤ n) (h1 : n ≤ 68719476736) : fo 0 ((bytesOf (dec (n / sc)) ++ bytesOf (fr sc 6 (n % sc))).map dig) * sc = m10 n (bytesOf (fr sc 6 (n % sc))).length := by
  have hb := PureTx.div_bd hs h0 h1; rw [List.map_append, fo_app, dec_fo hb.1, fr_val hs 6 _ _ hb.2.2.1 hb.2.2.2 (PureTx.gone_of hs hb.2.2.1 hb.2.2.2)]; congr 1
  have := Int.mul_ediv_add_emod n sc
  rw [Int.mul_comm] at this; exact this
theorem body_size {sc : Int} (hs : PureTx.IsScale sc) {n : Int} (h0 : 0 ≤ n) (h1 : n ≤ 68719476736) : (body sc n).size ≤ 40 := by
  have hb := PureTx.div_bd hs h0 h1; have h2 := PureTx.dec_size (n / sc) hb.1 (by omega); have h3 := PureTx.fr_size hs 6 (n % sc) hb.2.2.1 hb.2.2.2; unfold body tail; rw [ByteArray.size_append]; split
  · rw [ByteArray.size_append]
    show _ + (1 + _) ≤ 40
    omega
  show _ + 0 ≤ 40
  omega
theorem back_val {sc : Int} (hs : PureTx.IsScale sc) {n : Int} (h0 : 0 ≤ n) (h1 : n ≤ 68719476736) (p : ByteArray) (sg : List Int) (hp : bytesOf p = sg) (hsg : IsSg sg) (hz : p.size ≤ 1) :
    Val (p ++ body sc n) sc = (if sg = [45] then (-n, 0) else (n, 0)) ∧ noNum (p ++ body sc n) = false ∧ endOf (p ++ body sc n) = (p ++ body sc n).size := by
  have h := text_sh hs h0 h1 p sg hp hsg; refine ⟨?_, h.noNum_eq, h.exp.1⟩
  have hb := body_size hs h0 h1; rw [h.val (by rw [ByteArray.size_append]; omega) (show PureTv.IsScale sc from hs), text_val hs h0 h1, Int.sub_zero, S_m10 h0, if_pos h1]
/-- A length comes back from its text. -/
theorem txt_back {sc : Int} (hs : PureTx.IsScale sc) {n : Int} (hn : PureTx.Is n) : Val (txt sc n) sc = (n, 0) ∧ noNum (txt sc n) = false ∧ endOf (txt sc n) = (txt sc n).size ∧ (txt sc n).size ≤ 60 := by
  unfold PureTx.Is at hn; unfold txt; by_cases h : n < 0
  · rw [if_pos h]
    have h2 := back_val hs (n := -n) (by omega) (by omega) ⟨#[45]⟩ [45] rfl (Or.inr (Or.inr rfl)) (by decide); rw [if_pos rfl, Int.neg_neg] at h2; have hb := body_size hs (n := -n) (by omega) (by omega); refine ⟨h2.1, h2.2.1, h2.2.2, ?_⟩
    rw [ByteArray.size_append]; show 1 + _ ≤ 60
    omega
  rw [if_neg h]; have h2 := back_val hs (n := n) (by omega) (by omega) ⟨#[]⟩ [] rfl (Or.inl rfl) (by decide); rw [if_neg (by decide), PureTx.nil_ap] at h2; have hb := body_size hs (n := n) (by omega) (by omega); exact ⟨h2.1, h2.2.1, h2.2.2, by omega⟩
theorem u64_bd (a : Int) : 0 ≤ IntKind.u64.wrap a := by
  simp only [IntKind.wrap, IntKind.signed, IntKind.bits]; simp
  omega
/-- One of three. -/
theorem three (a : Int) : wrap64 (Int.tmod (IntKind.u64.wrap a) 3) = 0 ∨ wrap64 (Int.tmod (IntKind.u64.wrap a) 3) = 1 ∨ wrap64 (Int.tmod (IntKind.u64.wrap a) 3) = 2 := by
  have h := u64_bd a; rw [Int.tmod_eq_emod_of_nonneg h, w64 (by omega) (by omega)]; omega
end Go.Proofs.YtofdhdafabmhmaaDoor.PureSt
end
section
/- Names and texts as they are written (layer 4): the plain programs and the document's, byte for byte. Conditions: as each statement says. -/
namespace Go.Proofs.YtofdhdafabmhmaaDoor.PureId
open Go.RowKit Go.Proofs.YtofdhdafabmhmaaDoorW.PrintWords Go.Proofs.YtofdhdafabmhmaaDoorW.PrintMore Go.Proofs.YtofdhdafabmhmaaDoor.Evs Go.Proofs.YtofdhdafabmhmaaDoor.Opn Go.Proofs.YtofdhdafabmhmaaDoor.PLf4

/-! ### The 256 bytes, each looked at -/
/-! ### A nought -/
def has0 (s : ByteArray) : Bool := decide (0 ≤ Lib.indexByte s.data.toList 0)
theorem index0 (s : ByteArray) : strings_IndexByte.f s 0 = some (Lib.indexByte s.data.toList 0) := rfl
theorem has0_lt (s : ByteArray) : decide (Lib.indexByte s.data.toList 0 < 0) = !has0 s := by
  unfold has0; rw [← decide_not]; exact decide_eq_decide.2 (by omega)

/-! ### A name -/
def isName (s : ByteArray) : Bool := if s.toList = ([] : List UInt8) then false else if (s.size : Int) ≤ 64 then !has0 s else false
theorem name_f (s : ByteArray) : ident_Name.f s = some (isName s) := by
  unfold ident_Name.f isName; split
  · rfl
  split
  · rw [index0]
    show some (decide _) = _
    rw [has0_lt]
  rfl
/-! ### Written -/
theorem size_mk (c : List UInt8) : (⟨c.toArray⟩ : ByteArray).size = c.length := by
  show c.toArray.size = _
  simp
theorem wr (s : ByteArray) (i : Nat) (hs : s.size ≤ 1000000) (hi : i < s.size) : wrap64 ((i : Int) + 1) = ((i + 1 : Nat) : Int) := by
  rw [w64 (by omega) (by omega)]; omega
/-! ### Quoted -/
end Go.Proofs.YtofdhdafabmhmaaDoor.PureId
end
section
/- IdentTells, as a statement on bytes. Conditions: none beyond the arguments' own kinds. -/
namespace Go.Proofs.YtofdhdafabmhmaaDoor.PureIdT
open Go.RowKit Go.Proofs.YtofdhdafabmhmaaDoorW.PrintWords Go.Proofs.YtofdhdafabmhmaaDoorW.PrintMore Go.Proofs.YtofdhdafabmhmaaDoor.Evs Go.Proofs.YtofdhdafabmhmaaDoor.Opn Go.Proofs.YtofdhdafabmhmaaDoor.PLf4 Go.Proofs.YtofdhdafabmhmaaDoor.PureId
def lowN (s : ByteArray) (n : Nat) : List Int := (List.range n).map fun j => ident_Lower.low (bt s (j : Nat))
def L (s : ByteArray) : ByteArray := strOfNums (lowN s s.size)
theorem lower_f (s : ByteArray) (hs : s.size ≤ 1000000) : ident_Lower.f s = some (L s) := if_pos (by omega)
theorem is_f (a b : ByteArray) (ha : a.size ≤ 1000000) (hb : b.size ≤ 1000000) : ident_Is.f a b = some ((L a).toList == (L b).toList) := by
  unfold ident_Is.f; rw [lower_f a ha, lower_f b hb]; rfl
def kws : List ByteArray := [(⟨#[115, 112, 97, 110]⟩ : ByteArray), (⟨#[97, 117, 116, 111]⟩ : ByteArray), (⟨#[105, 110, 105, 116, 105, 97, 108]⟩ : ByteArray), (⟨#[105, 110, 104, 101, 114, 105, 116]⟩ : ByteArray), (⟨#[117, 110, 115, 101, 116]⟩ : ByteArray), (⟨#[100, 101, 102, 97, 117, 108, 116]⟩ : ByteArray), (⟨#[114, 101, 118, 101, 114, 116]⟩ : ByteArray)]
theorem kws_low : kws.map (fun x => (L x).data.toList) = [[115, 112, 97, 110], [97, 117, 116, 111], [105, 110, 105, 116, 105, 97, 108], [105, 110, 104, 101, 114, 105, 116], [117, 110, 115, 101, 116], [100, 101, 102, 97, 117, 108, 116], [114, 101, 118, 101, 114, 116]] := by decide +kernel
def custom (s : ByteArray) : Bool := if kws.any (fun x => (L s).toList == (L x).toList) = true then false else isName s
theorem custom_f (s : ByteArray) (hs : s.size ≤ 1000000) : ident_Custom.f s = some (custom s) := by
  have e : kws.any (fun x => (L s).toList == (L x).toList) = (kws.map (fun x => (L x).data.toList)).any (fun x => (L s).toList == x) := by
    rw [List.any_map]; congr 1
    funext x
    simp only [Function.comp, ByteArray.toList_eq]
  unfold ident_Custom.f custom; rw [lower_f s hs, e, kws_low, name_f]; simp only [Option.bind_some, List.any_cons, List.any_nil]; generalize (L s).toList = x
  repeat' first
    | rfl
    | (split <;> rename_i h1 <;> first | (subst h1; rfl) | skip)
  simp_all
end Go.Proofs.YtofdhdafabmhmaaDoor.PureIdT
namespace Go.Proofs.YtofdhdafabmhmaaDoor.Pure
open Go.RowKit Go.Proofs.YtofdhdafabmhmaaDoorW.PrintWords Go.Proofs.YtofdhdafabmhmaaDoorW.PrintMore Go.Proofs.YtofdhdafabmhmaaDoor.Evs Go.Proofs.YtofdhdafabmhmaaDoor.Opn Go.Proofs.YtofdhdafabmhmaaDoor.PLf4 Go.Proofs.YtofdhdafabmhmaaDoor.PureId Go.Proofs.YtofdhdafabmhmaaDoor.PureIdT
end Go.Proofs.YtofdhdafabmhmaaDoor.Pure
end
section
/- Lines and their texts (layer 7), by the program and by the document. Conditions: as each statement says. -/
namespace Go.Proofs.YtofdhdafabmhmaaDoor.PureLi
open Go.RowKit Go.Proofs.YtofdhdafabmhmaaDoorW.PrintWords Go.Proofs.YtofdhdafabmhmaaDoorW.PrintMore Go.Proofs.YtofdhdafabmhmaaDoor.Evs Go.Proofs.YtofdhdafabmhmaaDoor.Opn Go.Proofs.YtofdhdafabmhmaaDoor.PLf4 Go.Proofs.YtofdhdafabmhmaaDoor.Giv Go.Proofs.YtofdhdafabmhmaaDoor.PureId Go.Proofs.YtofdhdafabmhmaaDoor.PureIdT Go.Proofs.YtofdhdafabmhmaaDoor.PureTx

theorem ev_ite2 {α : Type} {c : Prop} [Decidable c] {f g : Nat → Option α} {a b : α} (h : c → Ev f a) (k : ¬ c → Ev g b) : Ev (fun n => if c then f n else g n) (if c then a else b) := by
  by_cases hc : c
  · simp only [if_pos hc]
    exact h hc
  simp only [if_neg hc]; exact k hc
theorem empty_of {s : ByteArray} (h : s.toList = ([] : List UInt8)) : s = ⟨#[]⟩ := by
  apply Go.WideShapes.bytes_inj
  rw [ByteArray.toList_eq] at h; rw [h]
theorem custom_nil {s : ByteArray} (h : s.toList = ([] : List UInt8)) : custom s = false := by
  unfold custom isName; rw [if_pos h]; split <;> rfl
theorem custom_size {s : ByteArray} (h : custom s = true) : s.size ≤ 64 := by
  unfold custom isName at h; split at h
  · cases h
  split at h
  · cases h
  split at h
  · rename_i h2
    omega
  cases h
/-- May a line be? -/
def good (v0 v1 : Int) (nm : ByteArray) : Bool :=
  if v0 = 1 then (if v1 = 0 then (nm.toList == ([] : List UInt8)) else false) else if v0 = 2 then (if v1 = 0 then false else if v1 ≥ (-10000) then (if v1 ≤ 10000 then (if nm.toList = ([] : List UInt8) then true else custom nm) else false) else false)
  else if v0 = 3 then (if v1 = 0 then custom nm else false) else if v0 = 4 then (if v1 ≥ 1 then (if v1 ≤ 10000 then (if nm.toList = ([] : List UInt8) then true else custom nm) else false) else false) else false
theorem good_j0 (v0 v1 : Int) (nm : ByteArray) (b : Bool) (hb : b = if nm.toList = ([] : List UInt8) then true else custom nm) : Ev (fun k => line_Good.j0 k b v0 v1 nm) (good v0 v1 nm) := by
  refine ev_step ?_
  simp only [line_Good.j0, good]; refine ev_ite2 (fun h1 => ?_) (fun _ => ev_ite2 (fun _ => ev_ite2 (fun _ => ev_some) (fun _ => ev_ite2 (fun _ => ev_ite2 (fun _ => ev_eq hb) (fun _ => ev_some)) (fun _ => ev_some)))
    (fun _ => ev_ite2 (fun _ => ev_ite2 (fun _ => ?_) (fun _ => ev_some)) (fun _ => ev_ite2 (fun _ => ev_ite2 (fun _ => ev_ite2 (fun _ => ev_eq hb) (fun _ => ev_some)) (fun _ => ev_some)) (fun _ => ev_some))))
  · refine ev_bindc (rfl : line_auto.f = some (1, 0, (⟨#[]⟩ : ByteArray))) (ev_eq ?_)
    show (v0 == 1 && (v1 == 0 && (nm.toList == (⟨#[]⟩ : ByteArray).toList))) = _
    rw [h1, show (⟨#[]⟩ : ByteArray).toList = ([] : List UInt8) by rw [ByteArray.toList_eq]]; by_cases h2 : v1 = 0
    · rw [if_pos h2, h2]
      simp
    rw [if_neg h2, beq_false_of_ne h2]; simp
  by_cases h : nm.toList = ([] : List UInt8)
  · rw [custom_nil h]
    exact ev_pos h ev_some
  refine ev_neg h (ev_eq ?_)
  rw [hb, if_neg h]
theorem lgood (v0 v1 : Int) (nm : ByteArray) (hs : nm.size ≤ 1000000) : Ev (fun k => line_Good.f k v0 v1 nm) (good v0 v1 nm) := by
  simp only [line_Good.f]; exact ev_ite (fun h => good_j0 _ _ _ _ (by rw [if_pos h])) (fun h => ev_bindc (custom_f nm hs) (good_j0 _ _ _ _ (by rw [if_neg h])))
structure Good (v0 v1 : Int) (nm : ByteArray) : Prop where
  k : v0 = 1 ∨ v0 = 2 ∨ v0 = 3 ∨ v0 = 4
  n : -10000 ≤ v1 ∧ v1 ≤ 10000
  s : v0 = 4 → 1 ≤ v1
  z : nm.size ≤ 64
  c : nm.toList = ([] : List UInt8) ∨ custom nm = true
  a : v0 = 1 → v1 = 0 ∧ nm.toList = ([] : List UInt8)
  b : v0 = 2 → v1 ≠ 0
  d : v0 = 3 → v1 = 0 ∧ custom nm = true
theorem nil_size {s : ByteArray} (h : s.toList = ([] : List UInt8)) : s.size = 0 := by
  rw [empty_of h]; rfl
theorem good_of {v0 v1 : Int} {nm : ByteArray} (h : good v0 v1 nm = true) : Good v0 v1 nm := by
  have named : ∀ {x : Bool}, (if nm.toList = ([] : List UInt8) then true else custom nm) = true → nm.toList = ([] : List UInt8) ∨ custom nm = true := fun {_} h => by
    by_cases e : nm.toList = ([] : List UInt8)
    · exact Or.inl e
    rw [if_neg e] at h; exact Or.inr h
  have sz : nm.toList = ([] : List UInt8) ∨ custom nm = true → nm.size ≤ 64 := fun h => by
    rcases h with h | h
    · rw [nil_size h]
      omega
    exact custom_size h
  unfold good at h; by_cases h1 : v0 = 1
  · rw [if_pos h1] at h
    by_cases h2 : v1 = 0
    · rw [if_pos h2] at h
      have e : nm.toList = ([] : List UInt8) := by simpa using h
      exact ⟨Or.inl h1, by omega, fun k => by omega, sz (Or.inl e), Or.inl e, fun _ => ⟨h2, e⟩, fun k => by omega, fun k => by omega⟩
    rw [if_neg h2] at h; cases h
  rw [if_neg h1] at h; by_cases h2 : v0 = 2
  · rw [if_pos h2] at h
    by_cases h3 : v1 = 0
    · rw [if_pos h3] at h
      cases h
    rw [if_neg h3] at h; by_cases h4 : v1 ≥ (-10000)
    · rw [if_pos h4] at h
      by_cases h5 : v1 ≤ 10000
      · rw [if_pos h5] at h
        have e := named (x := true) h; exact ⟨Or.inr (Or.inl h2), by omega, fun k => by omega, sz e, e, fun k => by omega, fun _ => h3, fun k => by omega⟩
      rw [if_neg h5] at h; cases h
    rw [if_neg h4] at h; cases h
  rw [if_neg h2] at h; by_cases h3 : v0 = 3
  · rw [if_pos h3] at h
    by_cases h4 : v1 = 0
    · rw [if_pos h4] at h
      exact ⟨Or.inr (Or.inr (Or.inl h3)), by omega, fun k => by omega, sz (Or.inr h), Or.inr h, fun k => by omega, fun k => by omega, fun _ => ⟨h4, h⟩⟩
    rw [if_neg h4] at h; cases h
  rw [if_neg h3] at h; by_cases h4 : v0 = 4
  · rw [if_pos h4] at h
    by_cases h5 : v1 ≥ 1
    · rw [if_pos h5] at h
      by_cases h6 : v1 ≤ 10000
      · rw [if_pos h6] at h
        have e := named (x := true) h; exact ⟨Or.inr (Or.inr (Or.inr h4)), by omega, fun _ => h5, sz e, e, fun k => by omega, fun k => by omega, fun k => by omega⟩
      rw [if_neg h6] at h; cases h
    rw [if_neg h5] at h; cases h
  rw [if_neg h4] at h; cases h

/-! ### Texts -/
theorem write_size {s r : ByteArray} (h : ident_Write.f s = some r) : r.size ≤ s.size * 8 := by
  unfold ident_Write.f at h; obtain ⟨t, ht, h⟩ := Option.bind_eq_some_iff.1 h; by_cases h1 : t = true
  · rw [if_pos h1] at h
    by_cases h2 : s.size ≤ 1000000
    · rw [if_pos h2] at h
      obtain ⟨l, hl, h⟩ := Option.bind_eq_some_iff.1 h; have := ident_Write.cat_len s _ _ hl
      rw [← si_ h, size_mk]; exact this
    rw [if_neg h2] at h; cases h
  rw [if_neg h1] at h; rw [← si_ h]; exact Nat.zero_le _
def ito (n : Int) : ByteArray := ⟨(Lib.itoa n).toArray⟩
theorem ito_f {n : Int} (h : -10000 ≤ n ∧ n ≤ 10000) : strconv_Itoa.f n = some (ito n) := by
  unfold strconv_Itoa.f; rw [if_pos (by omega), if_pos (by omega)]; rfl
theorem body_one {n : Int} : body 1 n = dec n := by
  unfold body tail; rw [Int.emod_one, if_neg (by decide), Int.ediv_one, ap_nil]
theorem ito_txt {n : Int} (h : -10000 ≤ n ∧ n ≤ 10000) : Txt n 1 = ito n := by
  unfold Txt; rw [if_pos ⟨⟨by omega, by omega⟩, Or.inl rfl⟩]; unfold txt; rw [body_one, body_one]; unfold ito Lib.itoa; by_cases h0 : n < 0
  · rw [if_pos h0, if_pos h0]
    unfold dec; rw [show n.natAbs = (-n).toNat by omega]; apply Go.WideShapes.bytes_inj
    simp
  rw [if_neg h0, if_neg h0]; rfl
theorem ito_size {n : Int} (h : -10000 ≤ n ∧ n ≤ 10000) : (ito n).size ≤ 21 := by
  have e : ito n = if n < 0 then (⟨#[45]⟩ : ByteArray) ++ dec (-n) else dec n := by
    rw [← ito_txt h]; unfold Txt; rw [if_pos ⟨⟨by omega, by omega⟩, Or.inl rfl⟩]; unfold txt; rw [body_one, body_one]
  rw [e]; by_cases h0 : n < 0
  · rw [if_pos h0, ByteArray.size_append]
    have := dec_size (-n) (by omega) (by omega)
    have : (⟨#[45]⟩ : ByteArray).size = 1 := rfl
    omega
  rw [if_neg h0]; have := dec_size n (by omega) (by omega)
  omega
/-- A line's text: its number, behind it its name. -/
def numd (v1 : Int) (w : ByteArray) : ByteArray := if w.toList = ([] : List UInt8) then ito v1 else ito v1 ++ ((⟨#[32]⟩ : ByteArray) ++ w)
def span (s : ByteArray) : ByteArray := (⟨#[115, 112, 97, 110, 32]⟩ : ByteArray) ++ s
def text (v0 v1 : Int) (w : ByteArray) : ByteArray :=
  if v0 = 1 then ⟨#[97, 117, 116, 111]⟩ else if v0 = 3 then w else if v0 = 2 then numd v1 w else (if w.toList = ([] : List UInt8) then span (ito v1) else if v1 = 1 then span w else span (numd v1 w))
theorem text_j1 {v0 v1 : Int} {nm x r : ByteArray} (hx : x.size ≤ 10000) (h1 : v0 = 1 → r = ⟨#[97, 117, 116, 111]⟩) (h4 : v0 = 4 → r = span x) (h5 : v0 ≠ 1 → v0 ≠ 4 → r = x) : Ev (fun k => line_Text.j1 k x v0 v1 nm) r := by
  refine ev_step ?_
  simp only [line_Text.j1]; refine ev_ite (fun h => ev_eq (h1 h).symm) (fun h => ev_ite (fun k => ev_pos (by omega) (ev_eq (h4 k).symm)) (fun k => ev_eq (h5 h k).symm))
theorem ltext {v0 v1 : Int} {nm w : ByteArray} (hg : good v0 v1 nm = true) (hw : ident_Write.f nm = some w) : Ev (fun k => line_Text.f k v0 v1 nm) (text v0 v1 w) := by
  have G := good_of hg; have z := G.z; have hz := write_size hw; have hi := ito_size G.n; have e32 : (⟨#[32]⟩ : ByteArray).size = 1 := rfl; have nz : (numd v1 w).size ≤ 10000 := by
    unfold numd; split
    · omega
    rw [ByteArray.size_append, ByteArray.size_append]; omega
  have j0t : (v0 = 2 ∨ (v0 = 4 ∧ (v1 > 1 ∨ w.toList = ([] : List UInt8)))) → Ev (fun k => line_Text.j0 k w true v0 v1 nm) (text v0 v1 w) := fun hc => by
    have fin : Ev (fun k => line_Text.j1 k (numd v1 w) v0 v1 nm) (text v0 v1 w) := by
      refine text_j1 nz (fun h => by omega) (fun h => ?_) (fun h1 h2 => ?_)
      · unfold text
        rw [if_neg (by omega), if_neg (by omega), if_neg (by omega)]; rcases hc with hc | ⟨_, hc | hc⟩
        · omega
        · by_cases e : w.toList = ([] : List UInt8)
          · rw [if_pos e]
            unfold numd; rw [if_pos e]
          rw [if_neg e, if_neg (by omega)]
        rw [if_pos hc]; unfold numd; rw [if_pos hc]
      unfold text; rw [if_neg h1, if_neg (by omega), if_pos (by omega)]
    refine ev_step ?_
    simp only [line_Text.j0]; refine ev_pos (by trivial) (ev_ite (fun e => ?_) (fun e => ?_))
    · refine ev_bindc (ito_f G.n) (ev_pos (by omega) ?_)
      have : ito v1 ++ w = numd v1 w := by
        unfold numd; rw [if_pos e, empty_of e, ap_nil]
      rw [this]; exact fin
    refine ev_pos (by omega) (ev_bindc (ito_f G.n) (ev_pos (by rw [ByteArray.size_append]; omega) ?_))
    have : ito v1 ++ ((⟨#[32]⟩ : ByteArray) ++ w) = numd v1 w := by
      unfold numd; rw [if_neg e]
    rw [this]; exact fin
  have j0f : ¬ (v0 = 2 ∨ (v0 = 4 ∧ (v1 > 1 ∨ w.toList = ([] : List UInt8)))) → Ev (fun k => line_Text.j0 k w false v0 v1 nm) (text v0 v1 w) := fun hc => by
    refine ev_step ?_
    simp only [line_Text.j0]; refine ev_neg (by decide) (text_j1 (by omega) (fun h => ?_) (fun h => ?_) (fun h1 h2 => ?_))
    · unfold text
      rw [if_pos h]
    · have h1 : ¬ v1 > 1 := fun k => hc (Or.inr ⟨h, Or.inl k⟩)
      have h2 : ¬ w.toList = ([] : List UInt8) := fun k => hc (Or.inr ⟨h, Or.inr k⟩)
      have := G.s h
      unfold text; rw [if_neg (by omega), if_neg (by omega), if_neg (by omega), if_neg h2, if_pos (by omega)]
    have := G.k
    unfold text; rw [if_neg h1, if_pos (by omega)]
  simp only [line_Text.f]; refine ev_bind (lgood _ _ _ (by omega)) (ev_pos hg (ev_bindc hw ?_))
  refine ev_ite (fun h => j0t (Or.inl h)) (fun h2 => ev_ite (fun h4 => ev_ite (fun h => j0t (Or.inr ⟨h4, Or.inl h⟩)) (fun h => ?_)) (fun h4 => j0f (fun k => ?_)))
  · by_cases e : w.toList = ([] : List UInt8)
    · rw [show (w.toList == ([] : List UInt8)) = true by rw [e]; rfl]
      exact j0t (Or.inr ⟨h4, Or.inr e⟩)
    rw [beq_false_of_ne e]; exact j0f (fun k => by rcases k with k | ⟨_, k | k⟩; exact h2 k; exact h k; exact e k)
  rcases k with k | ⟨k, _⟩
  · exact h2 k
  exact h4 k
theorem text_size {v0 v1 : Int} {nm w : ByteArray} (hg : good v0 v1 nm = true) (hw : ident_Write.f nm = some w) : (text v0 v1 w).size ≤ 1000 := by
  have G := good_of hg; have z := G.z; have hz := write_size hw; have hi := ito_size G.n; have e4 : (⟨#[97, 117, 116, 111]⟩ : ByteArray).size = 4 := rfl; have e5 : (⟨#[115, 112, 97, 110, 32]⟩ : ByteArray).size = 5 := rfl; have e32 : (⟨#[32]⟩ : ByteArray).size = 1 := rfl; unfold text span numd; repeat' split
  all_goals
    (try simp only [ByteArray.size_append])
    omega
def other (v0 v1 : Int) (nm : ByteArray) : Int × Int × ByteArray := if v0 = 3 then (v0, v1, nm) else (1, 0, ⟨#[]⟩)
theorem lother (v0 v1 : Int) (nm : ByteArray) : line_other.f v0 v1 nm = some (other v0 v1 nm) := by
  unfold line_other.f other; split <;> rfl
end Go.Proofs.YtofdhdafabmhmaaDoor.PureLi
end
section
/- Words with a blank between them, as the lexer reads them: names, numbers, signs. Conditions: as each theorem says. -/
namespace Go.Proofs.YtofdhdafabmhmaaDoor.PureLk
open Go.RowKit Go.Proofs.YtofdhdafabmhmaaDoorW.PrintWords Go.Proofs.YtofdhdafabmhmaaDoorW.PrintMore Go.Proofs.YtofdhdafabmhmaaDoor.Evs Go.Proofs.YtofdhdafabmhmaaDoor.Opn Go.Proofs.YtofdhdafabmhmaaDoor.PLf4 Go.Proofs.YtofdhdafabmhmaaDoor.Giv Go.Proofs.YtofdhdafabmhmaaDoor.PureLx Go.Proofs.YtofdhdafabmhmaaDoor.PureLi
open Go.Proofs.YtofdhdafabmhmaaDoor.PureTu (isD scan_f noNum endOf)
open Go.Proofs.YtofdhdafabmhmaaDoor.PureSh (AllD stop_list sgn_list bt_end bt_mid bt_at0)

/-! ### A number at a place -/
theorem scan_num {E : ByteArray} {sg W R : List Int} (hE : E.size ≤ 140737488351232) (h : bytesOf E = sg ++ (W ++ R)) (hs : sg = [] ∨ sg = [43] ∨ sg = [45]) (hW : AllD W) (hne : W ≠ []) (hR : ∀ c R', R = c :: R' → c = 32) :
    number_Scan.f E = some ((sg.length + W.length : Nat) : Int) := by
  have hz := PureSh.size_of h; simp only [List.length_append] at hz; have hpos : 0 < W.length := List.length_pos_iff.2 hne; have e0 : number_parts.w0 E = sg.length := by
    have := sgn_list (s := E) (A := []) (sg := sg) (R := W ++ R) h hs (fun c R' e => by
      obtain ⟨x, W', rfl⟩ := List.exists_cons_of_ne_nil hne; obtain ⟨rfl, _⟩ := List.cons.inj e; have hx := od_ (hW x List.mem_cons_self); omega)
    simpa [number_parts.w0] using this
  have e1 : number_parts.w1 E = sg.length + W.length := by
    unfold number_parts.w1; rw [e0]; refine stop_list h hW (fun c R' e => ?_)
    rw [hR c R' e]; decide
  have after : ∀ (x : Int), x ≠ 32 → (decide (sg.length + W.length < E.size) && (bt E ((sg.length + W.length : Nat) : Int) == x)) = false := fun x hx => by
    match R, h, hz, hR with
    | [], _, hz, _ =>
      simp only [List.length_nil] at hz; rw [df_ (by omega)]; rfl
    | c :: R', h, _, hR =>
      rw [bt_end h, hR c R' rfl, beq_false_of_ne (Ne.symm hx), Bool.and_false]
  have e2 : number_parts.isDot E (number_parts.w1 E) = false := by
    unfold number_parts.isDot; rw [e1]; exact after 46 (by decide)
  have e3 : number_parts.at2 E = sg.length + W.length := by
    unfold number_parts.at2; rw [e2, if_neg (by decide), e1]
  have e4 : number_parts.hasE E = false := by
    unfold number_parts.hasE number_parts.isE; rw [e3]; have h1 := after 101 (by decide); have h2 := after 69 (by decide); rw [Bool.and_or_distrib_left, h1, h2]; rfl
  rw [scan_f E hE]; have e5 : noNum E = false := by
    unfold noNum; rw [e0, e1]; exact df_ (by omega)
  rw [e5, if_neg (by decide)]; unfold endOf; rw [e4, if_neg (by decide), e3]
/-- The bytes of a whole number's text: a sign, digits. -/
theorem ito_bytes (n : Int) (h : -10000 ≤ n ∧ n ≤ 10000) : ∃ sg W : List Int, bytesOf (ito n) = sg ++ W ∧ (sg = [] ∨ sg = [45]) ∧ AllD W ∧ W ≠ [] := by
  rw [← ito_txt h]; unfold PureTx.Txt; rw [if_pos ⟨⟨by omega, by omega⟩, Or.inl rfl⟩]; unfold PureTx.txt; rw [body_one, body_one]; by_cases h0 : n < 0
  · rw [if_pos h0]
    exact ⟨[45], bytesOf (PureTx.dec (-n)), by rw [PureTw.bytes_app]; rfl, Or.inr rfl, PureSt.dec_D (by omega), PureSt.dec_ne (by omega)⟩
  rw [if_neg h0]; exact ⟨[], bytesOf (PureTx.dec n), by simp, Or.inl rfl, PureSt.dec_D (by omega), PureSt.dec_ne (by omega)⟩

/-! ### The rest of a text from a place on -/
def Tl (T : ByteArray) (p : Nat) (X : List UInt8) : Prop := T.data.toList.drop p = X ∧ p + X.length = T.size
section
variable {T : ByteArray} {p : Nat} {c : UInt8} {X L R : List UInt8}
theorem Tl.at (h : Tl T p X) : At T p X := by
  refine ⟨T.data.toList.take p, [], ?_, ?_⟩
  · rw [← h.1, List.append_nil, List.take_append_drop]
  have := h.2
  rw [List.length_take, data_length]; omega
theorem Tl.tail (h : Tl T p (c :: L)) : Tl T (p + 1) L := by
  refine ⟨?_, by have := h.2; simp only [List.length_cons] at this; omega⟩
  rw [← List.drop_drop, h.1]; rfl
theorem Tl.right (h : Tl T p (L ++ R)) : Tl T (p + L.length) R := by
  refine ⟨?_, by have := h.2; rw [List.length_append] at this; omega⟩
  rw [← List.drop_drop, h.1, List.drop_left]
theorem Tl.nil (h : Tl T p []) : p = T.size := by
  have := h.2
  simpa using this
theorem Tl.ext (h : Tl T p X) : bytesOf (T.extract p T.size) = X.map fun b => (b.toNat : Int) := by
  unfold bytesOf; have e : (T.extract p T.size).data.toList = X := by
    rw [ByteArray.data_extract, Array.toList_extract, List.extract_eq_take_drop, h.1]; exact List.take_of_length_le (by have := h.2; omega)
  rw [e]
end
/-- A word's bytes: with nothing or a blank behind, wherever they stand. -/
structure Wrd (L : List UInt8) (kd : Int) (tx nm : ByteArray) : Prop where
  go : ∀ {T : ByteArray} {p : Nat} {R : List UInt8}, T.size ≤ 1000000 → Tl T p (L ++ R) → (∀ c R', R = c :: R' → c = 32) → Ev (fun k => wordF k T p) (kd, tx, nm, p + L.length)
  sk : ∀ {T : ByteArray} {p : Nat} {R : List UInt8}, T.size ≤ 1000000 → Tl T p (L ++ R) → (∀ c R', R = c :: R' → c = 32) → Ev (fun k => skipF k T p) p
  ne : L ≠ []
section
variable {s : ByteArray} {l : List UInt8}
theorem rest_is (f : Int → Option Bool) (hf : f 32 = some false) {T : ByteArray} {p : Nat} {R : List UInt8} (h : Tl T p R) (hR : ∀ c R', R = c :: R' → c = 32) : isF f T p = some false := by
  match R, h, hR with
  | [], h, _ =>
    rw [h.nil]; exact is_end f
  | c :: R', h, hR =>
    rw [is_at f h.at, hR c R' rfl]; exact hf
theorem rest_92 {T : ByteArray} {p : Nat} {R : List UInt8} (h : Tl T p R) (hR : ∀ c R', R = c :: R' → c = 32) : p < T.size → bt T (p : Int) ≠ 92 := fun hlt => by
  match R, h, hR with
  | [], h, _ => have := h.nil; omega
  | c :: R', h, hR =>
    rw [h.at.get.2, hR c R' rfl]; decide
theorem name_wrd (hs1 : 0 < s.size) (hs : s.size ≤ 64) (h0 : ∀ c ∈ s.data.toList, c ≠ 0) (hl : ident_Write.cat s s.size = some l) : Wrd l 1 s ⟨#[]⟩ := by
  have hne : l ≠ [] := fun e => by
    have hT : (⟨#[]⟩ : ByteArray).size ≤ 1000000 := by decide
    subst e; obtain ⟨c, L, hcl, _⟩ := write_head hT (by omega) hs1 h0 hl (P := 0) ⟨[], [], rfl, rfl⟩; cases hcl
  refine ⟨fun {T p R} hT h hR => ?_, fun {T p R} hT h hR => ?_, hne⟩
  · have ha : At T p l := At.left h.at
    obtain ⟨c, L, hcl, hb, h47, hsc, hbg⟩ := write_head hT (by omega) hs1 h0 hl ha; have hi := write_ident hT (by omega) h0 hl ha (rest_is _ (by decide) h.right hR) (rest_92 h.right hR) s.size 0 rfl (Nat.zero_le _) [] rfl; have ha2 := h.at; rw [hcl, List.cons_append] at ha2; have hsz := h.2; rw [List.length_append] at hsz; have := w_ident (l := s.data.toList) (j := p + l.length) ha2 hsc hbg hi (by rw [data_length]; exact hs) (by omega) (rest_is _ (by decide) h.right hR)
    rw [mk_list] at this; exact this
  obtain ⟨c, L, hcl, hb, h47, hsc, hbg⟩ := write_head hT (by omega) hs1 h0 hl (At.left h.at); have ha2 := h.at; rw [hcl, List.cons_append] at ha2; exact sk_stop ha2 hb h47
/-- A number. -/
theorem num_wrd {n : Int} (h : -10000 ≤ n ∧ n ≤ 10000) : Wrd (ito n).data.toList 3 ⟨#[]⟩ (ito n) := by
  obtain ⟨sg, W, hb, hsg, hW, hne⟩ := ito_bytes n h; have hlen : (ito n).data.toList.length = sg.length + W.length := by
    rw [data_length, ← bytesOf_length, hb, List.length_append]
  have hpos : 0 < W.length := List.length_pos_iff.2 hne; have hd : ∃ c L, (ito n).data.toList = c :: L ∧ ((c.toNat : Int) = 45 ∨ isD (c.toNat : Int) = true) := by
    unfold bytesOf at hb; match hL : (ito n).data.toList with
    | [] =>
      rw [hL] at hlen; simp only [List.length_nil] at hlen; omega
    | c :: L =>
      rw [hL] at hb; refine ⟨c, L, rfl, ?_⟩
      rcases hsg with rfl | rfl
      · obtain ⟨x, W', rfl⟩ := List.exists_cons_of_ne_nil hne
        obtain ⟨e, _⟩ := List.cons.inj hb; have e2 : (c.toNat : Int) = x := e; rw [e2]; exact Or.inr (hW x List.mem_cons_self)
      obtain ⟨e, _⟩ := List.cons.inj hb; exact Or.inl e
  obtain ⟨c, L, hcL, hc⟩ := hd; have hblank : token_blank.f (c.toNat : Int) = some false ∧ c ≠ 47 := by
    have hh : (c.toNat : Int) = 45 ∨ 48 ≤ (c.toNat : Int) ∧ (c.toNat : Int) ≤ 57 := hc.imp id (fun h => od_ h); constructor
    · unfold token_blank.f token_feed.f
      rw [if_neg (by omega), if_neg (by omega), if_neg (by omega), if_neg (by omega)]; rw [show ((c.toNat : Int) == 12) = false from beq_false_of_ne (by omega)]; rfl
    rintro rfl
    have : ((47 : UInt8).toNat : Int) = 47 := rfl
    omega
  refine ⟨fun {T p R} hT h1 hR => ?_, fun {T p R} hT h1 hR => ?_, by rw [hcL]; simp⟩
  · have hsz := h1.2
    rw [List.length_append] at hsz; have hE : (T.extract p T.size).size ≤ 140737488351232 := by rw [ByteArray.size_extract]; omega
    have hbE : bytesOf (T.extract p T.size) = sg ++ (W ++ R.map fun b => (b.toNat : Int)) := by
      rw [h1.ext, List.map_append, ← List.append_assoc, ← hb]; rfl
    have hsc := scan_num hE hbE (hsg.imp id Or.inr) hW hne (fun x R' e => by
      match R, hR, e with
      | [], _, e => cases e
      | y :: R2, hR, e =>
        obtain ⟨rfl, _⟩ := List.cons.inj e; rw [hR y R2 rfl]; rfl)
    rw [← hlen] at hsc; have ha := h1.at; have ha2 := ha; rw [hcL, List.cons_append] at ha2; have hlp : 0 < (ito n).data.toList.length := by rw [hlen]; omega
    have hr := h1.right; have hex : T.extract p (p + (ito n).data.toList.length) = ito n := by
      apply Go.WideShapes.bytes_inj
      rw [ByteArray.data_extract, Array.toList_extract, List.extract_eq_take_drop, h1.1, Nat.add_sub_cancel_left, List.take_left]
    have nb : Ev (fun k => begF k T (p + (ito n).data.toList.length)) false := by
      unfold begF; exact ev_bindc (rest_is _ (by decide) hr hR) (ev_neg (by decide) (ev_bindc (rest_is _ (by decide) hr hR) (ev_neg (by decide) (esc_no hT (rest_92 hr hR)))))
    simp only [wordF]; refine ev_pos ha2.get.1 (ev_bindc hsc (ev_pos (by omega) ?_))
    simp only [Int.toNat_natCast]; refine ev_pos (by omega) (ev_bindc (rest_is _ (by decide) hr hR) (ev_neg (by decide) (ev_bind nb (ev_neg (by decide) ?_))))
    rw [hex]; exact ev_some
  have ha2 := h1.at; rw [hcL, List.cons_append] at ha2; exact sk_stop ha2 hblank.1 hblank.2
/-- The sign between two lines. -/
theorem sign_wrd : Wrd [47] 7 ⟨#[47]⟩ ⟨#[]⟩ := by
  refine ⟨fun {T p R} hT h hR => ?_, fun {T p R} hT h hR => ?_, by simp⟩
  · have ha : At T p [47] := At.left (A := [47]) h.at
    exact w_sign ha (scan0 hT ha ⟨by decide, by decide⟩ (by decide) (fun e => absurd e (by decide))) (beg_no hT ha (by decide) (by decide) (by decide)) (by decide) ⟨_, rfl, by decide⟩
  have ha := h.at; obtain ⟨h1, h2⟩ := ha.get; refine ev_step ?_
  simp only [skipF]; rw [h2]; refine ev_pos h1 (ev_bindc (a := false) (by decide) (ev_neg (by decide) (ev_bindc (a := false) ?_ (ev_neg (by decide) ev_some))))
  obtain ⟨pre, post, he, h0⟩ := ha.ext; obtain rfl := List.eq_nil_of_length_eq_zero h0; have hp : ∀ x y, T.extract p T.size = x → x.data.toList = 47 :: y → (∀ c y', y = c :: y' → c = 32) → strings_HasPrefix.f x (⟨#[47, 42]⟩ : ByteArray) = some false := fun x y _ hx hy => by
    unfold strings_HasPrefix.f stringslite_HasPrefix.f; by_cases hz : (x.size : Int) ≥ ((⟨#[47, 42]⟩ : ByteArray).size : Int)
    · rw [if_pos hz, if_pos (by omega), if_pos hz]
      show some ((x.extract 0 2).toList == (⟨#[47, 42]⟩ : ByteArray).toList) = some false
      rw [ByteArray.toList_eq, ByteArray.toList_eq, ByteArray.data_extract, Array.toList_extract, List.extract_eq_take_drop, hx]; match y, hy with
      | [], _ => rfl
      | c :: y', hy =>
        rw [hy c y' rfl]; rfl
    rw [if_neg hz]; rfl
  refine hp _ R rfl ?_ hR
  have e : (T.extract p T.size).data.toList = [47] ++ R := by
    rw [ByteArray.data_extract, Array.toList_extract, List.extract_eq_take_drop, h.1]; exact List.take_of_length_le (by have := h.2; omega)
  rw [e]; rfl
end

/-! ### Words one behind the other -/
structure W where
  L : List UInt8
  kd : Int
  tx : ByteArray
  nm : ByteArray
def W.ok (w : W) : Prop := Wrd w.L w.kd w.tx w.nm
def join : List W → List UInt8
  | [] => []
  | [w] => w.L
  | w :: ws => w.L ++ 32 :: join ws
def toks : Nat → List W → List S67
  | _, [] => []
  | p, w :: ws => ⟨w.kd, (p : Int), w.tx, w.nm⟩ :: toks (p + w.L.length + 1) ws
theorem toks_length : ∀ (ws : List W) (p : Nat), (toks p ws).length = ws.length
  | [], _ => rfl
  | w :: ws, p => by
    simp only [toks, List.length_cons]; rw [toks_length ws]
theorem join_cons (w : W) (ws : List W) (h : ws ≠ []) : join (w :: ws) = w.L ++ 32 :: join ws := by
  match ws, h with
  | x :: ws, _ => rfl
theorem words_l0 {T : ByteArray} (hT : T.size ≤ 1000000) : ∀ (ws : List W) (p : Nat) (out : List S67), ws ≠ [] → (∀ w ∈ ws, w.ok) → Tl T p (join ws) → out.length + ws.length ≤ 1000 →
    Ev (fun k => token_Tokens.l0 k T p out) (out ++ toks p ws ++ [⟨8, (T.size : Int), ⟨#[]⟩, ⟨#[]⟩⟩])
  | [], _, _, h, _, _, _ => absurd rfl h
  | [w], p, out, _, hok, h, hn => by
    have hw := hok w List.mem_cons_self; have hX : Tl T p (w.L ++ []) := by rw [List.append_nil]; exact h
    have hz := h.2; have hpos : 0 < w.L.length := List.length_pos_iff.2 hw.ne; have e : p + w.L.length = T.size := hz; have g := hw.go hT hX (fun _ _ e => by cases e); rw [e] at g; have := tk_step (out := out) (by omega) (by omega) g (Nat.le_refl _) sk_end (Nat.le_refl _) tk_end
    exact this
  | w :: x :: ws, p, out, _, hok, h, hn => by
    have hw := hok w List.mem_cons_self; have hx := hok x (List.mem_cons_of_mem _ List.mem_cons_self); rw [join_cons w (x :: ws) (by simp)] at h; have hz := h.2; simp only [List.length_append, List.length_cons] at hz; have hpos : 0 < w.L.length := List.length_pos_iff.2 hw.ne; have g := hw.go hT h (fun c R' e => (List.cons.inj e).1.symm); have h1 := h.right; have h2 : Tl T (p + w.L.length + 1) (join (x :: ws)) := h1.tail; have s2 : Ev (fun k => skipF k T (p + w.L.length + 1)) (p + w.L.length + 1) := by
      match ws, h2 with
      | [], h2 => exact hx.sk hT (R := []) (by rw [List.append_nil]; exact h2) (fun _ _ e => by cases e)
      | y :: ws, h2 =>
        rw [join_cons x (y :: ws) (by simp)] at h2; exact hx.sk hT h2 (fun c R' e => (List.cons.inj e).1.symm)
    simp only [List.length_cons] at hn; have ih := words_l0 hT (x :: ws) (p + w.L.length + 1) (out ++ [⟨w.kd, (p : Int), w.tx, w.nm⟩]) (by simp) (fun z hz => hok z (List.mem_cons_of_mem _ hz)) h2 (by simp only [List.length_append, List.length_cons, List.length_nil]; omega); rw [List.append_assoc out] at ih; exact tk_step (by omega) (by omega) g (by omega) (sk_blank h1.at (by decide) s2) (by omega) ih
/-- The words of a text that is made of words. -/
theorem words_ev {T : ByteArray} (hT : T.size ≤ 100000) (ws : List W) (h0 : ws ≠ []) (hok : ∀ w ∈ ws, w.ok) (hj : T.data.toList = join ws) (hn : ws.length ≤ 1000) :
    Ev (fun k => token_Tokens.f k (bytesOf T)) (toks 0 ws ++ [⟨8, (T.size : Int), ⟨#[]⟩, ⟨#[]⟩⟩], (0 : Int), (0 : Int)) := by
  have h : Tl T 0 (join ws) := ⟨by rw [List.drop_zero, hj], by rw [← hj, data_length, Nat.zero_add]⟩
  refine tokens_ev (i := 0) (by omega) ?_ (Nat.zero_le _) (words_l0 (by omega) ws 0 [] h0 hok h (by simpa using hn))
  match ws, h0, hok, h with
  | [w], _, hok, h => exact (hok w List.mem_cons_self).sk (by omega) (R := []) (by rw [List.append_nil]; exact h) (fun _ _ e => by cases e)
  | w :: x :: ws, _, hok, h =>
    rw [join_cons w (x :: ws) (by simp)] at h; exact (hok w List.mem_cons_self).sk (by omega) h (fun c R' e => (List.cons.inj e).1.symm)
end Go.Proofs.YtofdhdafabmhmaaDoor.PureLk
end
