/- Texts as the lexer reads them: escapes, identifiers, quoted texts, at any place of any text. Conditions: as each theorem says. -/
import Derived.Test.YtfccpnpocfjbcaaPTkx2
import Derived.Test.YtfccpnpocfjbcaaPTkx4
import Derived.Test.YtfccpnpocfjbcaaPTkx5
import Derived.Test.YtfccpnpocfjbcaaPTkx6
import Derived.Test.YtfccpnpocfjbcaaPTkx7
import Derived.Test.YtfccpnpocfjbcaaPTkx8
import Derived.Test.YtfccpnpocfjbcaaPTkx15
import Derived.Test.YtfccpnpocfjbcaaPTkx16
import Derived.Test.YtfccpnpocfjbcaaPTkx17
import Derived.Test.YtfccpnpocfjbcaaLex8
import Derived.Test.YtfccpnpocfjbcaaEv
import Derived.Lib.IndexLaws
set_option linter.unusedVariables false
set_option linter.unusedSimpArgs false
namespace Go.Proofs.Ytfccpnpocfjbcaa.PureLx
open Go.RowKit Go.Proofs.YtfccpnpocfjbcaaW.PrintWords Go.Proofs.YtfccpnpocfjbcaaW.PrintMore Go.Proofs.Ytfccpnpocfjbcaa.Evs Go.Proofs.Ytfccpnpocfjbcaa.Opn Go.Proofs.Ytfccpnpocfjbcaa.PTk Go.Proofs.Ytfccpnpocfjbcaa.Giv

/-! ### Bytes at a place -/
def At (T : ByteArray) (p : Nat) (L : List UInt8) : Prop := ∃ pre post, T.data.toList = pre ++ (L ++ post) ∧ pre.length = p
section
variable {T : ByteArray} {p : Nat} {c : UInt8} {A B L : List UInt8}
theorem bt_list {s : ByteArray} {i : Nat} (h : s.data.toList[i]? = some c) : i < s.size ∧ bt s (i : Int) = (c.toNat : Int) := by
  obtain ⟨h1, h2⟩ := List.getElem?_eq_some_iff.1 h
  have h3 : i < s.size := by rw [data_length] at h1; exact h1
  refine ⟨h3, ?_⟩
  rw [← bt_at s (i : Int) (by simpa using h3), ← h2]
  simp
  rfl
theorem At.get (h : At T p (c :: L)) : p < T.size ∧ bt T (p : Int) = (c.toNat : Int) := by
  obtain ⟨pre, post, he, rfl⟩ := h
  refine bt_list ?_
  rw [he, List.getElem?_append_right (Nat.le_refl _), Nat.sub_self]
  rfl
theorem At.tail (h : At T p (c :: L)) : At T (p + 1) L := by
  obtain ⟨pre, post, he, rfl⟩ := h
  exact ⟨pre ++ [c], post, by rw [he]; simp, by simp⟩
theorem At.left (h : At T p (A ++ B)) : At T p A := by
  obtain ⟨pre, post, he, rfl⟩ := h
  exact ⟨pre, B ++ post, by rw [he]; simp, rfl⟩
theorem At.right (h : At T p (A ++ B)) : At T (p + A.length) B := by
  obtain ⟨pre, post, he, rfl⟩ := h
  exact ⟨pre ++ A, post, by rw [he]; simp, by simp⟩
theorem At.size (h : At T p L) : p + L.length ≤ T.size := by
  obtain ⟨pre, post, he, rfl⟩ := h
  rw [← data_length, he]
  simp only [List.length_append]
  omega
theorem At.ext (h : At T p L) : At (T.extract p T.size) 0 L := by
  obtain ⟨pre, post, he, rfl⟩ := h
  refine ⟨[], post, ?_, rfl⟩
  have h1 : T.data.size = T.size := rfl
  rw [ByteArray.data_extract, Array.toList_extract, List.extract_eq_take_drop, he, List.drop_left, ← h1, ← Array.length_toList, he, List.nil_append]
  exact List.take_of_length_le (by simp only [List.length_append]; omega)
end

/-! ### The 256 bytes -/
def escB (c : Int) : Bool := match ident_escaped.f c with
  | some r => (match r.data.toList with
    | [x, h, y] => x == 92 && (y == 32 && (token_hex.f 3 (h.toNat : Int) == some c && (token_feed.f (h.toNat : Int) == some false && h != 0)))
    | [x, h, g, y] => x == 92 && (y == 32 && ((match token_hex.f 3 (h.toNat : Int), token_hex.f 3 (g.toNat : Int) with
      | some a, some b => decide (0 ≤ a) && (decide (a ≤ 15) && (decide (0 ≤ b) && a * 16 + b == c))
      | _, _ => false) && (token_feed.f (h.toNat : Int) == some false && h != 0)))
    | _ => false)
  | none => false
def fineL (c : Int) : Bool := token_lexer_ident_1.f c == some true && (decide (c ≠ 45) && (token_blank.f c == some false && (token_feed.f c == some false && (number_digit.f c == some false && decide (c ≠ 43 ∧ c ≠ 46 ∧ c ≠ 47 ∧ c ≠ 34 ∧ c ≠ 39 ∧ c ≠ 92)))))
def fineO (c : Int) : Bool := token_hex.f 3 c == some (-1) && (token_feed.f c == some false && decide (c ≠ 0))
def fine (c : Int) : Bool := (token_Letter.f c).isSome && ((ident_digit.f c).isSome && ((ident_control.f c).isSome && ((ident_escaped.f c).isSome && ((token_Letter.f c != some true || fineL c) && ((ident_digit.f c != some true || token_lexer_ident_1.f c == some true) &&
  ((token_Letter.f c == some true || (ident_digit.f c == some true || (ident_control.f c == some true || fineO c))) && (escB c && ((ident_control.f c == some true || token_feed.f c == some false) && ((ident_control.f c != some true || decide (c < 128)) && (ident_digit.f c != some true || decide (c < 128)))))))))))
theorem fine_all : (List.range 256).all (fun n => fine (n : Int)) = true := by decide +kernel
theorem chr_all : (List.range 128).all (fun n => n == 0 || decide (token_character.f 6 (n : Int) = some (⟨#[UInt8.ofNat n]⟩ : ByteArray))) = true := by decide +kernel
theorem fine_of (c : UInt8) : fine (c.toNat : Int) = true := List.all_eq_true.1 fine_all c.toNat (List.mem_range.2 c.toNat_lt)
structure Told (c : UInt8) : Prop where
  ex : ∃ t1 t2 t3 t4, token_Letter.f (c.toNat : Int) = some t1 ∧ ident_digit.f (c.toNat : Int) = some t2 ∧ ident_control.f (c.toNat : Int) = some t3 ∧ ident_escaped.f (c.toNat : Int) = some t4
  letter : token_Letter.f (c.toNat : Int) = some true → fineL (c.toNat : Int) = true
  digit : ident_digit.f (c.toNat : Int) = some true → token_lexer_ident_1.f (c.toNat : Int) = some true
  other : token_Letter.f (c.toNat : Int) ≠ some true → ident_digit.f (c.toNat : Int) ≠ some true → ident_control.f (c.toNat : Int) ≠ some true → fineO (c.toNat : Int) = true
  esc : escB (c.toNat : Int) = true
  feed : ident_control.f (c.toNat : Int) ≠ some true → token_feed.f (c.toNat : Int) = some false
  c128 : ident_control.f (c.toNat : Int) = some true → (c.toNat : Int) < 128
  d128 : ident_digit.f (c.toNat : Int) = some true → (c.toNat : Int) < 128
theorem told (c : UInt8) : Told c := by
  have h := fine_of c
  simp only [fine, Bool.and_eq_true, Bool.or_eq_true, beq_iff_eq, bne_iff_ne, decide_eq_true_eq] at h
  obtain ⟨h1, h2, h3, h4, h5, h6, h7, h8, h9, h10, h11⟩ := h
  obtain ⟨t1, e1⟩ := Option.isSome_iff_exists.1 h1
  obtain ⟨t2, e2⟩ := Option.isSome_iff_exists.1 h2
  obtain ⟨t3, e3⟩ := Option.isSome_iff_exists.1 h3
  obtain ⟨t4, e4⟩ := Option.isSome_iff_exists.1 h4
  refine ⟨⟨t1, t2, t3, t4, e1, e2, e3, e4⟩, fun h => h5.resolve_left (fun g => g h), fun h => h6.resolve_left (fun g => g h), fun g1 g2 g3 => ((h7.resolve_left g1).resolve_left g2).resolve_left g3, h8, fun g => h9.resolve_left g, fun h => h10.resolve_left (fun g => g h), fun h => h11.resolve_left (fun g => g h)⟩
theorem chr_ev (c : UInt8) (h0 : c ≠ 0) (h1 : (c.toNat : Int) < 128) : Ev (fun k => token_character.f k (c.toNat : Int)) (⟨#[c]⟩ : ByteArray) := by
  have h := List.all_eq_true.1 chr_all c.toNat (List.mem_range.2 (by omega))
  simp only [Bool.or_eq_true, beq_iff_eq, decide_eq_true_eq] at h
  have h2 := h.resolve_left (fun e => h0 (UInt8.toNat_inj.1 (by simpa using e)))
  rw [UInt8.ofNat_toNat] at h2
  exact Ev.of (token_character.mono _) h2
theorem hexv {c : UInt8} {v : Int} (h : token_hex.f 3 (c.toNat : Int) = some v) : Ev (fun k => token_hex.f k (c.toNat : Int)) v := Ev.of (token_hex.mono _) h

theorem b92 : token_lexer_begins_1.f (((92 : UInt8).toNat : Nat) : Int) = some false := by decide
theorem b45 : token_lexer_begins_1.f (((45 : UInt8).toNat : Nat) : Int) = some true := by decide
theorem L92 : token_Letter.f (((92 : UInt8).toNat : Nat) : Int) = some false := by decide
theorem i92 : token_lexer_ident_1.f (((92 : UInt8).toNat : Nat) : Int) = some false := by decide
theorem esc_cases {c : Int} {t : ByteArray} (he : escB c = true) (ht : ident_escaped.f c = some t) :
    (∃ h, t.data.toList = [92, h, 32] ∧ token_hex.f 3 (h.toNat : Int) = some c ∧ token_feed.f (h.toNat : Int) = some false ∧ h ≠ 0) ∨
    (∃ h g a b, t.data.toList = [92, h, g, 32] ∧ token_hex.f 3 (h.toNat : Int) = some a ∧ token_hex.f 3 (g.toNat : Int) = some b ∧ 0 ≤ a ∧ a ≤ 15 ∧ 0 ≤ b ∧ a * 16 + b = c ∧ token_feed.f (h.toNat : Int) = some false ∧ h ≠ 0) := by
  unfold escB at he
  rw [ht] at he
  dsimp only at he
  split at he
  · rename_i x h y e
    simp only [Bool.and_eq_true, beq_iff_eq, bne_iff_ne] at he
    obtain ⟨rfl, rfl, e1, e2, e3⟩ := he
    exact Or.inl ⟨h, e, e1, e2, e3⟩
  · rename_i x h g y e
    simp only [Bool.and_eq_true, beq_iff_eq, bne_iff_ne] at he
    obtain ⟨rfl, rfl, he, e2, e3⟩ := he
    split at he
    · rename_i a b ea eb
      simp only [Bool.and_eq_true, decide_eq_true_eq, beq_iff_eq] at he
      obtain ⟨a0, a15, b0, eab⟩ := he
      exact Or.inr ⟨h, g, a, b, e, ea, eb, a0, a15, b0, eab, e2, e3⟩
    · cases he
  · cases he

/-! ### Escapes -/
section
variable {T : ByteArray} {p : Nat} {c h g : UInt8} {L : List UInt8} {r : ByteArray × Int}
theorem hex_top (hT : T.size ≤ 1000000) (ha : At T p (92 :: h :: L)) (hf : token_feed.f (h.toNat : Int) = some false) (hr : Ev (fun k => token_Hex.l0 k T (p : Int) 0 0 0) r) : Ev (fun k => token_Hex.f k T (p : Int)) r := by
  obtain ⟨h1, h2⟩ := ha.get
  obtain ⟨h3, h4⟩ := ha.tail.get
  have e0 : wrap64 ((T.size : Int) - 2) = (T.size : Int) - 2 := w64 (by omega) (by omega)
  have e1 : wrap64 ((p : Int) + 1) = ((p + 1 : Nat) : Int) := by rw [w64 (by omega) (by omega)]; omega
  simp only [token_Hex.f, e0, e1]
  refine ev_neg (by omega) (ev_neg (by omega) (ev_pos (by omega) (ev_pos (by omega) (ev_pos h2 (ev_pos (by omega) (ev_pos (by omega) (ev_bindc (by rw [h4]; exact hf) (ev_step ?_))))))))
  simp only [token_Hex.j0]
  exact ev_neg (by decide) hr
theorem hex_none (hT : T.size ≤ 1000000) (h : p < T.size → bt T (p : Int) ≠ 92) : Ev (fun k => token_Hex.f k T (p : Int)) ((⟨#[]⟩ : ByteArray), (0 : Int)) := by
  have e0 : wrap64 ((T.size : Int) - 2) = (T.size : Int) - 2 := w64 (by omega) (by omega)
  have j0 : Ev (fun k => token_Hex.j0 k T (p : Int) true) ((⟨#[]⟩ : ByteArray), (0 : Int)) := ev_step (by simp only [token_Hex.j0]; exact ev_pos (by trivial) ev_some)
  simp only [token_Hex.f, e0]
  refine ev_neg (by omega) (ev_ite (fun _ => j0) (fun h1 => ev_pos (by omega) (ev_pos (by omega) (ev_neg (h (by omega)) j0))))
set_option maxHeartbeats 1000000 in
theorem l0_dig (hT : T.size ≤ 1000000) (n kk : Nat) (hn : n ≤ 1000) (hk : kk < 6) (ha : At T (p + 1 + kk) (h :: L)) {v : Int} (hv : token_hex.f 3 (h.toNat : Int) = some v) (h0 : 0 ≤ v) (h15 : v ≤ 255) (hr : Ev (fun k => token_Hex.l0 k T (p : Int) ((n : Int) * 16 + v) ((kk : Int) + 1) ((kk : Int) + 1)) r) :
    Ev (fun k => token_Hex.l0 k T (p : Int) (n : Int) (kk : Int) (kk : Int)) r := by
  obtain ⟨h1, h2⟩ := ha.get
  have e1 : wrap64 ((p : Int) + 1) = (p : Int) + 1 := w64 (by omega) (by omega)
  have e3 : wrap64 ((p : Int) + 1 + (kk : Int)) = ((p + 1 + kk : Nat) : Int) := by rw [w64 (by omega) (by omega)]; omega
  have e7 : wrap64 ((kk : Int) + 1) = (kk : Int) + 1 := w64 (by omega) (by omega)
  have e8 : wrap64 (wrap64 ((n : Int) * 16) + v) = (n : Int) * 16 + v := by rw [w64 (x := (n : Int) * 16) (by omega) (by omega), w64 (by omega) (by omega)]
  have HE := Aside0.mk e8
  clear e8
  refine ev_step ?_
  simp only [token_Hex.l0, e1, e3, e7]
  rw [h2]
  clear e1 e3 e7 h2
  refine ev_pos (by omega) (ev_neg (by omega) (ev_pos (by omega) (ev_pos (by omega) (ev_bind (hexv hv) (ev_neg (by omega) (ev_bind (hexv hv) ?_))))))
  rw [HE.out]
  exact hr
theorem l0_stop (hT : T.size ≤ 1000000) (n kk : Nat) (hk : kk < 6) (ha : At T (p + 1 + kk) (h :: L)) (hv : token_hex.f 3 (h.toNat : Int) = some (-1)) (hr : Ev (fun k => token_Hex.j2 k T (p : Int) (n : Int) (kk : Int)) r) :
    Ev (fun k => token_Hex.l0 k T (p : Int) (n : Int) (kk : Int) (kk : Int)) r := by
  obtain ⟨h1, h2⟩ := ha.get
  have e1 : wrap64 ((p : Int) + 1) = (p : Int) + 1 := w64 (by omega) (by omega)
  have e3 : wrap64 ((p : Int) + 1 + (kk : Int)) = ((p + 1 + kk : Nat) : Int) := by rw [w64 (by omega) (by omega)]; omega
  refine ev_step ?_
  simp only [token_Hex.l0, e1, e3]
  rw [h2]
  exact ev_pos (by omega) (ev_neg (by omega) (ev_pos (by omega) (ev_pos (by omega) (ev_bind (hexv hv) (ev_pos (by decide) hr)))))
theorem j2_sp (hT : T.size ≤ 1000000) (n kk : Nat) (hk0 : 0 < kk) (hk : kk < 6) (ha : At T (p + 1 + kk) (32 :: L)) {x : ByteArray} (hx : Ev (fun k => token_character.f k (n : Int)) x) :
    Ev (fun k => token_Hex.j2 k T (p : Int) (n : Int) (kk : Int)) (x, (kk : Int) + 2) := by
  obtain ⟨h1, h2⟩ := ha.get
  have e1 : wrap64 ((p : Int) + 1) = (p : Int) + 1 := w64 (by omega) (by omega)
  have e3 : wrap64 ((p : Int) + 1 + (kk : Int)) = ((p + 1 + kk : Nat) : Int) := by rw [w64 (by omega) (by omega)]; omega
  have e4 : wrap64 (wrap64 (((p + 1 + kk : Nat) : Int) + 1) - (p : Int)) = (kk : Int) + 2 := by rw [w64 (x := ((p + 1 + kk : Nat) : Int) + 1) (by omega) (by omega), w64 (by omega) (by omega)]; omega
  refine ev_step ?_
  simp only [token_Hex.j2, e1, e3, e4]
  rw [h2]
  exact ev_neg (by omega) (ev_pos (by omega) (ev_pos (by omega) (ev_bindc (by decide : token_blank.f (((32 : UInt8).toNat : Nat) : Int) = some true) (ev_pos (by trivial) (ev_bind hx ev_some)))))
theorem hexO (hT : T.size ≤ 1000000) (ha : At T p [92, c]) (ho : fineO (c.toNat : Int) = true) : Ev (fun k => token_Hex.f k T (p : Int)) ((⟨#[c]⟩ : ByteArray), (2 : Int)) := by
  simp only [fineO, Bool.and_eq_true, beq_iff_eq] at ho
  refine hex_top hT ha ho.2.1 (l0_stop hT 0 0 (by decide) ha.tail ho.1 (ev_step ?_))
  have hs := ha.size
  have e1 : wrap64 ((p : Int) + 1) = (p : Int) + 1 := w64 (by omega) (by simp at hs; omega)
  have e2 : wrap64 ((p : Int) + 2) = (p : Int) + 2 := w64 (by omega) (by simp at hs; omega)
  simp only [token_Hex.j2, e1, e2]
  simp at hs
  refine ev_pos rfl (ev_pos (by omega) (ev_pos (by omega) (ev_pos (by omega) (ev_eq ?_))))
  have : T.extract ((p : Int) + 1).toNat ((p : Int) + 2).toNat = ⟨#[c]⟩ := by
    obtain ⟨pre, post, he, rfl⟩ := ha
    apply Go.WideShapes.bytes_inj
    rw [ByteArray.data_extract, Array.toList_extract, List.extract_eq_take_drop, he, (by omega : ((pre.length : Int) + 1).toNat = pre.length + 1), (by omega : ((pre.length : Int) + 2).toNat = pre.length + 2), ← List.drop_drop, List.drop_left]
    simp
  rw [this]
theorem hexE (hT : T.size ≤ 1000000) {t : ByteArray} (ht : ident_escaped.f (c.toNat : Int) = some t) (h0 : c ≠ 0) (h128 : (c.toNat : Int) < 128) (ha : At T p t.data.toList) : Ev (fun k => token_Hex.f k T (p : Int)) ((⟨#[c]⟩ : ByteArray), (t.size : Int)) ∧ ∃ h L, t.data.toList = 92 :: h :: L ∧ h ≠ 0 := by
  have he := (told c).esc
  have hx := chr_ev c h0 h128
  have hz : t.size = t.data.toList.length := (data_length t).symm
  rw [hz]
  rcases esc_cases he ht with ⟨h, hl, e1, e2, e3⟩ | ⟨h, g, a, b, hl, e5, e6, a0, a15, b0, eab, e2, e3⟩
  · rw [hl] at ha ⊢
    refine ⟨?_, h, [32], rfl, e3⟩
    have q2 : Ev (fun k => token_Hex.l0 k T (p : Int) (c.toNat : Int) ((1 : Nat) : Int) ((1 : Nat) : Int)) ((⟨#[c]⟩ : ByteArray), (3 : Int)) := ev_cast (l0_stop (p := p) hT c.toNat 1 (by decide) ha.tail.tail (by decide) (j2_sp hT c.toNat 1 (by decide) (by decide) ha.tail.tail hx)) rfl
    have e : ((0 : Nat) : Int) * 16 + (c.toNat : Int) = (c.toNat : Int) := by omega
    exact hex_top hT ha e2 (l0_dig (p := p) hT 0 0 (by decide) (by decide) ha.tail e1 (by omega) (by omega) (by rw [e]; exact q2))
  · rw [hl] at ha ⊢
    refine ⟨?_, h, [g, 32], rfl, e3⟩
    have q3 : Ev (fun k => token_Hex.l0 k T (p : Int) (c.toNat : Int) ((2 : Nat) : Int) ((2 : Nat) : Int)) ((⟨#[c]⟩ : ByteArray), (4 : Int)) := ev_cast (l0_stop (p := p) hT c.toNat 2 (by decide) ha.tail.tail.tail (by decide) (j2_sp hT c.toNat 2 (by decide) (by decide) ha.tail.tail.tail hx)) rfl
    have e1 : ((0 : Nat) : Int) * 16 + a = (a.toNat : Int) := by omega
    have e4 : ((a.toNat : Nat) : Int) * 16 + b = (c.toNat : Int) := by omega
    have q2 : Ev (fun k => token_Hex.l0 k T (p : Int) (a.toNat : Int) ((1 : Nat) : Int) ((1 : Nat) : Int)) ((⟨#[c]⟩ : ByteArray), (4 : Int)) := l0_dig (p := p) hT a.toNat 1 (by omega) (by decide) ha.tail.tail e6 b0 (by omega) (by rw [e4]; exact q3)
    exact hex_top hT ha e2 (l0_dig (p := p) hT 0 0 (by decide) (by decide) ha.tail e5 a0 (by omega) (by rw [e1]; exact q2))
end

/-! ### Identifiers, quoted texts -/
section
variable {T : ByteArray} {p : Nat} {c h : UInt8} {L acc : List UInt8} {r : List UInt8 × Nat} {e : Int}
theorem is_at (f : Int → Option Bool) (ha : At T p (c :: L)) : isF f T p = f (c.toNat : Int) := by
  obtain ⟨h1, h2⟩ := ha.get
  unfold isF
  rw [if_pos h1, h2]
theorem is_end (f : Int → Option Bool) : isF f T T.size = some false := by
  unfold isF
  rw [if_neg (Nat.lt_irrefl _)]
theorem esc_yes (ha : At T p (92 :: h :: L)) (h0 : h ≠ 0) {x : ByteArray} {n : Int} (hx : Ev (fun k => token_Hex.f k T (p : Int)) (x, n)) (hn : n > 0) : Ev (fun k => escF k T p) true := by
  obtain ⟨h1, h2⟩ := ha.tail.get
  unfold escF
  refine ev_bind hx (ev_pos hn (ev_pos h1 (ev_eq ?_)))
  rw [h2]
  rw [bne_iff_ne]
  intro e
  exact h0 (UInt8.toNat_inj.1 (by simpa using e))
theorem esc_no (hT : T.size ≤ 1000000) (h : p < T.size → bt T (p : Int) ≠ 92) : Ev (fun k => escF k T p) false := by
  unfold escF
  exact ev_bind (hex_none hT h) (ev_neg (by decide) ev_some)
theorem byteAt_at (ha : At T p (c :: L)) : byteAt T p = c := by
  unfold byteAt
  rw [ha.get.2]
  simp
theorem id_plain (hc : token_lexer_ident_1.f (c.toNat : Int) = some true) (ha : At T p (c :: L)) (hl : acc.length ≤ 10000000) (hr : Ev (fun k => identF k T (p + 1) (acc ++ [c])) r) : Ev (fun k => identF k T p acc) r := by
  refine ev_step ?_
  simp only [identF]
  refine ev_bindc ((is_at _ ha).trans hc) (ev_pos rfl (ev_pos ha.get.1 (ev_pos hl ?_)))
  rw [byteAt_at ha]
  exact hr
theorem id_esc (ha : At T p (92 :: h :: L)) (h0 : h ≠ 0) {x : ByteArray} {n : Nat} (hx : Ev (fun k => token_Hex.f k T (p : Int)) (x, (n : Int))) (hn : n > 0) (hs : p + n ≤ T.size) (hl : acc.length + x.size ≤ 10000000) (hr : Ev (fun k => identF k T (p + n) (acc ++ x.data.toList)) r) : Ev (fun k => identF k T p acc) r := by
  refine ev_step ?_
  simp only [identF]
  refine ev_bindc ((is_at _ ha).trans i92) (ev_neg (by decide) (ev_bind (esc_yes ha h0 hx (by omega)) (ev_pos rfl (ev_bind hx (ev_pos (by omega) (ev_pos (by simpa using hs) (ev_pos hl ?_)))))))
  simpa using hr
theorem id_end (hT : T.size ≤ 1000000) (hi : isF token_lexer_ident_1.f T p = some false) (h : p < T.size → bt T (p : Int) ≠ 92) : Ev (fun k => identF k T p acc) (acc, p) := by
  refine ev_step ?_
  simp only [identF]
  exact ev_bindc hi (ev_neg (by decide) (ev_bind (esc_no hT h) (ev_neg (by decide) ev_some)))
theorem q_plain (hf : token_feed.f (c.toNat : Int) = some false) (h0 : c ≠ 0) (h92 : c ≠ 92) (he : (c.toNat : Int) ≠ e) (ha : At T p (c :: L)) (hl : acc.length ≤ 10000000) (hr : Ev (fun k => quotF k T (p + 1) (acc ++ [c]) e) r) : Ev (fun k => quotF k T p acc e) r := by
  refine ev_step ?_
  simp only [quotF]
  obtain ⟨h1, h2⟩ := ha.get
  rw [h2, byteAt_at ha]
  refine ev_pos h1 (ev_neg he (ev_bindc hf (ev_neg (by decide) (ev_neg ?_ (ev_neg ?_ (ev_pos hl hr))))))
  · intro e
    exact h0 (UInt8.toNat_inj.1 (by simpa using e))
  · intro e
    refine h92 (UInt8.toNat_inj.1 ?_)
    have : (c.toNat : Int) = 92 := e
    show c.toNat = 92
    omega
theorem q_esc (ha : At T p (92 :: h :: L)) (h0 : h ≠ 0) (he : (92 : Int) ≠ e) {x : ByteArray} {n : Nat} (hx : Ev (fun k => token_Hex.f k T (p : Int)) (x, (n : Int))) (hn : n > 0) (hs : p + n ≤ T.size) (hl : acc.length + x.size ≤ 10000000) (hr : Ev (fun k => quotF k T (p + n) (acc ++ x.data.toList) e) r) : Ev (fun k => quotF k T p acc e) r := by
  refine ev_step ?_
  simp only [quotF]
  obtain ⟨h1, h2⟩ := ha.get
  have h3 : bt T (p : Int) = 92 := h2
  rw [h3]
  refine ev_pos h1 (ev_neg he (ev_bindc (by decide : token_feed.f 92 = some false) (ev_neg (by decide) (ev_neg (by decide) (ev_pos rfl (ev_bind (esc_yes ha h0 hx (by omega)) (ev_pos rfl (ev_bind hx (ev_pos (by omega) (ev_pos (by simpa using hs) (ev_pos hl ?_))))))))))) 
  simpa using hr
theorem q_end (ha : At T p (c :: L)) (he : (c.toNat : Int) = e) : Ev (fun k => quotF k T p acc e) (acc, p + 1) := by
  refine ev_step ?_
  simp only [quotF]
  obtain ⟨h1, h2⟩ := ha.get
  rw [h2]
  exact ev_pos h1 (ev_pos he ev_some)
end

/-! ### Blanks, words -/
section
variable {T : ByteArray} {p : Nat} {c h : UInt8} {L : List UInt8}
theorem sk_end : Ev (fun k => skipF k T T.size) T.size := by
  refine ev_step ?_
  simp only [skipF]
  exact ev_neg (Nat.lt_irrefl _) ev_some
theorem sk_blank (ha : At T p (c :: L)) (hb : token_blank.f (c.toNat : Int) = some true) {r : Nat} (hr : Ev (fun k => skipF k T (p + 1)) r) : Ev (fun k => skipF k T p) r := by
  obtain ⟨h1, h2⟩ := ha.get
  refine ev_step ?_
  simp only [skipF]
  rw [h2]
  exact ev_pos h1 (ev_bindc hb (ev_pos rfl hr))
theorem no_comment (ha : At T p (c :: L)) (h47 : c ≠ 47) : strings_HasPrefix.f (T.extract p T.size) (⟨#[47, 42]⟩ : ByteArray) = some false := by
  obtain ⟨pre, post, he, h0⟩ := ha.ext
  obtain rfl := List.eq_nil_of_length_eq_zero h0
  generalize T.extract p T.size = E at he ⊢
  unfold strings_HasPrefix.f stringslite_HasPrefix.f
  by_cases hz : (E.size : Int) ≥ ((⟨#[47, 42]⟩ : ByteArray).size : Int)
  · rw [if_pos hz, if_pos (by omega), if_pos hz]
    show some ((E.extract 0 2).toList == (⟨#[47, 42]⟩ : ByteArray).toList) = some false
    rw [ByteArray.toList_eq, ByteArray.toList_eq, ByteArray.data_extract, Array.toList_extract, List.extract_eq_take_drop, he]
    simp
    intro e
    exact absurd e h47
  · rw [if_neg hz]
    rfl
theorem sk_stop (ha : At T p (c :: L)) (hb : token_blank.f (c.toNat : Int) = some false) (h47 : c ≠ 47) : Ev (fun k => skipF k T p) p := by
  obtain ⟨h1, h2⟩ := ha.get
  refine ev_step ?_
  simp only [skipF]
  rw [h2]
  exact ev_pos h1 (ev_bindc hb (ev_neg (by decide) (ev_bindc (no_comment ha h47) (ev_neg (by decide) ev_some))))
def NoNum (c : UInt8) : Prop := number_digit.f (c.toNat : Int) = some false ∧ c ≠ 46
theorem scan0 (hT : T.size ≤ 1000000) (ha : At T p (c :: L)) (hc : NoNum c) (h43 : c ≠ 43) (h45 : c = 45 → ∃ g L', L = g :: L' ∧ NoNum g) : number_Scan.f (T.extract p T.size) = some 0 := by
  have hE : (T.extract p T.size).size ≤ 140737488351232 := by rw [ByteArray.size_extract]; omega
  have hb := ha.ext
  generalize T.extract p T.size = E at hb hE ⊢
  obtain ⟨g1, g2⟩ := hb.get
  have key : number_parts.w1 E = number_parts.w0 E ∧ number_parts.at2 E = number_parts.w1 E := by
    have d46 : ∀ {x : UInt8}, x ≠ 46 → ((x.toNat : Int) == 46) = false := fun {x} hx => by
      rw [beq_eq_false_iff_ne]
      intro e
      exact hx (UInt8.toNat_inj.1 (by have : (x.toNat : Int) = 46 := e; show x.toNat = 46; omega))
    by_cases h : c = 45
    · obtain ⟨g, L', rfl, hg⟩ := h45 h
      obtain ⟨g3, g4⟩ := hb.tail.get
      subst h
      have e0 : number_parts.w0 E = 1 := by
        unfold number_parts.w0 number_parts.sgn number_parts.isSign
        rw [decide_eq_true g1, show bt E ((0 : Nat) : Int) = 45 from g2]
        rfl
      have e1 : number_parts.w1 E = 1 := by
        unfold number_parts.w1
        rw [e0]
        exact number_parts.stop_here E 1 g3 (by rw [show bt E ((1 : Nat) : Int) = _ from g4, hg.1]; decide)
      have e2 : number_parts.isDot E 1 = false := by
        unfold number_parts.isDot
        rw [show bt E ((1 : Nat) : Int) = _ from g4, d46 hg.2, Bool.and_false]
      refine ⟨by rw [e0, e1], ?_⟩
      unfold number_parts.at2
      rw [e1, e2]
      rfl
    · have e0 : number_parts.w0 E = 0 := by
        unfold number_parts.w0 number_parts.sgn number_parts.isSign
        rw [show bt E ((0 : Nat) : Int) = _ from g2]
        have a1 : ((c.toNat : Int) == 43) = false := by
          rw [beq_eq_false_iff_ne]
          intro e
          exact h43 (UInt8.toNat_inj.1 (by have : (c.toNat : Int) = 43 := e; show c.toNat = 43; omega))
        have a2 : ((c.toNat : Int) == 45) = false := by
          rw [beq_eq_false_iff_ne]
          intro e
          exact h (UInt8.toNat_inj.1 (by have : (c.toNat : Int) = 45 := e; show c.toNat = 45; omega))
        rw [a1, a2]
        simp
      have e1 : number_parts.w1 E = 0 := by
        unfold number_parts.w1
        rw [e0]
        exact number_parts.stop_here E 0 g1 (by rw [show bt E ((0 : Nat) : Int) = _ from g2, hc.1]; decide)
      have e2 : number_parts.isDot E 0 = false := by
        unfold number_parts.isDot
        rw [show bt E ((0 : Nat) : Int) = _ from g2, d46 hc.2, Bool.and_false]
      refine ⟨by rw [e0, e1], ?_⟩
      unfold number_parts.at2
      rw [e1, e2]
      rfl
  unfold number_Scan.f number_parts.f
  rw [if_pos hE, if_pos key]
  rfl
theorem beg_letter (ha : At T p (c :: L)) (h45 : c ≠ 45) (hl : token_Letter.f (c.toNat : Int) = some true) : Ev (fun k => begF k T p) true := by
  unfold begF
  have e : isF token_lexer_begins_1.f T p = some false := by
    rw [is_at _ ha]
    unfold token_lexer_begins_1.f
    refine congrArg some (beq_eq_false_iff_ne.2 fun e => h45 (UInt8.toNat_inj.1 ?_))
    have : (c.toNat : Int) = 45 := e
    show c.toNat = 45
    omega
  exact ev_bindc e (ev_neg (by decide) (ev_bindc ((is_at _ ha).trans hl) (ev_pos rfl ev_some)))
theorem beg_esc (ha : At T p (92 :: h :: L)) (h0 : h ≠ 0) {x : ByteArray} {n : Int} (hx : Ev (fun k => token_Hex.f k T (p : Int)) (x, n)) (hn : n > 0) : Ev (fun k => begF k T p) true := by
  unfold begF
  exact ev_bindc ((is_at _ ha).trans b92) (ev_neg (by decide) (ev_bindc ((is_at _ ha).trans L92) (ev_neg (by decide) (esc_yes ha h0 hx hn))))
theorem beg_minus (ha : At T p (45 :: c :: L)) (hc : c = 45 ∨ (c ≠ 45 ∧ token_Letter.f (c.toNat : Int) = some true)) : Ev (fun k => begF k T p) true := by
  unfold begF
  refine ev_bindc ((is_at _ ha).trans b45) (ev_pos rfl ?_)
  rcases hc with rfl | ⟨h45, hl⟩
  · exact ev_bindc ((is_at _ ha.tail).trans b45) (ev_pos rfl ev_some)
  · have e : isF token_lexer_begins_1.f T (p + 1) = some false := by
      rw [is_at _ ha.tail]
      unfold token_lexer_begins_1.f
      refine congrArg some (beq_eq_false_iff_ne.2 fun e => h45 (UInt8.toNat_inj.1 ?_))
      have : (c.toNat : Int) = 45 := e
      show c.toNat = 45
      omega
    exact ev_bindc e (ev_neg (by decide) (ev_bindc ((is_at _ ha.tail).trans hl) (ev_pos rfl ev_some)))
theorem beg_minus_esc (ha : At T p (45 :: 92 :: h :: L)) (h0 : h ≠ 0) {x : ByteArray} {n : Int} (hx : Ev (fun k => token_Hex.f k T ((p + 1 : Nat) : Int)) (x, n)) (hn : n > 0) : Ev (fun k => begF k T p) true := by
  unfold begF
  exact ev_bindc ((is_at _ ha).trans b45) (ev_pos rfl (ev_bindc ((is_at _ ha.tail).trans b92) (ev_neg (by decide) (ev_bindc ((is_at _ ha.tail).trans L92) (ev_neg (by decide) (esc_yes ha.tail h0 hx hn))))))
theorem beg_no (hT : T.size ≤ 1000000) (ha : At T p (c :: L)) (h45 : token_lexer_begins_1.f (c.toNat : Int) = some false) (hl : token_Letter.f (c.toNat : Int) = some false) (h92 : (c.toNat : Int) ≠ 92) : Ev (fun k => begF k T p) false := by
  unfold begF
  exact ev_bindc ((is_at _ ha).trans h45) (ev_neg (by decide) (ev_bindc ((is_at _ ha).trans hl) (ev_neg (by decide) (esc_no hT (fun _ => by rw [ha.get.2]; exact h92)))))
theorem w_ident (ha : At T p (c :: L)) (hs : number_Scan.f (T.extract p T.size) = some 0) (hb : Ev (fun k => begF k T p) true) {l : List UInt8} {j : Nat} (hi : Ev (fun k => identF k T p []) (l, j)) (hl : l.length ≤ 64) (hj : j ≤ T.size) (hp : isF token_lexer_word_2.f T j = some false) :
    Ev (fun k => wordF k T p) ((1 : Int), (⟨l.toArray⟩ : ByteArray), (⟨#[]⟩ : ByteArray), j) := by
  simp only [wordF]
  exact ev_pos ha.get.1 (ev_bindc hs (ev_neg (by decide) (ev_bind hb (ev_pos rfl (ev_bind hi (ev_pos ⟨hl, hj⟩ (ev_bindc hp (ev_neg (by decide) ev_some))))))))
theorem w_quote (ha : At T p (34 :: L)) (hs : number_Scan.f (T.extract p T.size) = some 0) (hb : Ev (fun k => begF k T p) false) {l : List UInt8} {j : Nat} (hi : Ev (fun k => quotF k T (p + 1) [] 34) (l, j)) (hl : l.length ≤ 8192) (hj : j ≤ T.size) :
    Ev (fun k => wordF k T p) ((6 : Int), (⟨l.toArray⟩ : ByteArray), (⟨#[]⟩ : ByteArray), j) := by
  have h34 : bt T (p : Int) = 34 := ha.get.2
  simp only [wordF]
  rw [h34]
  exact ev_pos ha.get.1 (ev_bindc hs (ev_neg (by decide) (ev_bind hb (ev_neg (by decide) (ev_pos (Or.inl rfl) (ev_bind hi (ev_pos ⟨hl, hj⟩ ev_some)))))))
theorem w_sign (ha : At T p [c]) (hs : number_Scan.f (T.extract p T.size) = some 0) (hb : Ev (fun k => begF k T p) false) (hq : ¬ ((c.toNat : Int) = 34 ∨ (c.toNat : Int) = 39)) (hi : ∃ q, strings_IndexByte.f (⟨#[44, 47, 58, 59, 123, 125, 91, 93, 40, 41]⟩ : ByteArray) (c.toNat : Int) = some q ∧ q ≥ 0) :
    Ev (fun k => wordF k T p) ((7 : Int), (⟨#[c]⟩ : ByteArray), (⟨#[]⟩ : ByteArray), p + 1) := by
  obtain ⟨q, hi, hq0⟩ := hi
  have e : T.extract p (p + 1) = ⟨#[c]⟩ := by
    obtain ⟨pre, post, he, rfl⟩ := ha
    apply Go.WideShapes.bytes_inj
    rw [ByteArray.data_extract, Array.toList_extract, List.extract_eq_take_drop, he, List.drop_left]
    simp
  simp only [wordF]
  rw [ha.get.2, e]
  exact ev_pos ha.get.1 (ev_bindc hs (ev_neg (by decide) (ev_bind hb (ev_neg (by decide) (ev_neg hq (ev_bindc hi (ev_pos hq0 ev_some)))))))
theorem tk_step {out : List S33} {r : List S33} {kd : Int} {tx nm : ByteArray} {j j2 : Nat} (hp : p < T.size) (ho : out.length < 65536) (hw : Ev (fun k => wordF k T p) (kd, tx, nm, j)) (hj : j ≤ T.size) (hs : Ev (fun k => skipF k T j) j2) (hj2 : j2 ≤ T.size)
    (hr : Ev (fun k => token_Tokens.l0 k T j2 (out ++ [⟨kd, (p : Int), tx, nm⟩])) r) : Ev (fun k => token_Tokens.l0 k T p out) r := by
  refine ev_step ?_
  simp only [token_Tokens.l0]
  exact ev_pos hp (ev_pos ho (ev_bind hw (ev_pos hj (ev_bind hs (ev_pos hj2 hr)))))
theorem tk_end {out : List S33} : Ev (fun k => token_Tokens.l0 k T T.size out) (out ++ [⟨8, (T.size : Int), ⟨#[]⟩, ⟨#[]⟩⟩]) := by
  refine ev_step ?_
  simp only [token_Tokens.l0]
  exact ev_neg (Nat.lt_irrefl _) ev_some
theorem strOf_bytes (T : ByteArray) : strOfNums (bytesOf T) = T := by
  apply Go.WideShapes.bytes_inj
  show (bytesOf T).map (fun n => UInt8.ofNat n.toNat) = _
  unfold bytesOf
  rw [List.map_map]
  conv => rhs; rw [← List.map_id T.data.toList]
  refine List.map_congr_left fun b _ => ?_
  simp
theorem tokens_ev {i : Nat} {r : List S33} (hT : T.size ≤ 262144) (hs : Ev (fun k => skipF k T 0) i) (hi : i ≤ T.size) (hr : Ev (fun k => token_Tokens.l0 k T i []) r) : Ev (fun k => token_Tokens.f k (bytesOf T)) (r, (0 : Int), (0 : Int)) := by
  simp only [token_Tokens.f, strOf_bytes]
  exact ev_pos (by rw [bytesOf_length]; exact hT) (ev_bind hs (ev_pos hi (ev_bind hr ev_some)))
end
end Go.Proofs.Ytfccpnpocfjbcaa.PureLx
