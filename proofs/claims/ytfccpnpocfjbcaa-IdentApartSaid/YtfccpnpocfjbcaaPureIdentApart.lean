/- Two names written among others (layer 4): each is a word of its own, that means the name; unlike names are written unlike. Conditions: as the statement says. -/
import Derived.Test.YtfccpnpocfjbcaaPTkx17
import Derived.Test.YtfccpnpocfjbcaaPTkx19
import Derived.Test.YtfccpnpocfjbcaaPureLw
set_option linter.unusedVariables false
set_option linter.unusedSimpArgs false
namespace Go.Proofs.Ytfccpnpocfjbcaa.Pure
open Go.RowKit Go.Proofs.YtfccpnpocfjbcaaW.PrintWords Go.Proofs.YtfccpnpocfjbcaaW.PrintMore Go.Proofs.Ytfccpnpocfjbcaa.Evs Go.Proofs.Ytfccpnpocfjbcaa.Opn Go.Proofs.Ytfccpnpocfjbcaa.PTk Go.Proofs.Ytfccpnpocfjbcaa.Giv Go.Proofs.Ytfccpnpocfjbcaa.PureLx

section
variable {T a b : ByteArray} {la lb : List UInt8}
theorem apart_tokens (ha1 : 0 < a.size) (ha64 : a.size ≤ 64) (ha0 : ∀ c ∈ a.data.toList, c ≠ 0) (hla : ident_Write.cat a a.size = some la)
    (hb1 : 0 < b.size) (hb64 : b.size ≤ 64) (hb0 : ∀ c ∈ b.data.toList, c ≠ 0) (hlb : ident_Write.cat b b.size = some lb) (hTl : T.data.toList = 91 :: (la ++ (32 :: (lb ++ [93])))) :
    Ev (fun k => token_Tokens.f k (bytesOf T)) ([] ++ [(⟨7, ((0 : Nat) : Int), ⟨#[91]⟩, ⟨#[]⟩⟩ : S33)] ++ [⟨1, ((1 : Nat) : Int), a, ⟨#[]⟩⟩] ++ [⟨1, ((1 + la.length + 1 : Nat) : Int), b, ⟨#[]⟩⟩] ++ [⟨7, ((1 + la.length + 1 + lb.length : Nat) : Int), ⟨#[93]⟩, ⟨#[]⟩⟩] ++ [⟨8, (T.size : Int), ⟨#[]⟩, ⟨#[]⟩⟩], (0 : Int), (0 : Int)) := by
  have hlen := ident_Write.cat_len a _ _ hla
  have hlen2 := ident_Write.cat_len b _ _ hlb
  have hT : T.size = la.length + lb.length + 3 := by
    rw [← data_length, hTl]
    simp
    omega
  have h0 : At T 0 (91 :: (la ++ (32 :: (lb ++ [93])))) := ⟨[], [], by rw [hTl]; simp, rfl⟩
  have h1 : At T 1 (la ++ (32 :: (lb ++ [93]))) := h0.tail
  have h2 : At T (1 + la.length) (32 :: (lb ++ [93])) := h1.right
  have h3 : At T (1 + la.length + 1) (lb ++ [93]) := h2.tail
  have h4 : At T (1 + la.length + 1 + lb.length) [93] := h3.right
  have hz : T.size ≤ 1000000 := by omega
  obtain ⟨c, L, hcl, hcb, hc47, hsc, hbg⟩ := write_head hz (by omega) ha1 ha0 hla h1.left
  obtain ⟨d, M, hdl, hdb, hd47, hsd, hbd⟩ := write_head hz (by omega) hb1 hb0 hlb h3.left
  have hi := write_ident hz (by omega) ha0 hla h1.left ((is_at _ h2).trans (by decide)) (fun _ => by rw [h2.get.2]; decide) a.size 0 rfl (Nat.zero_le _) [] rfl
  have hj := write_ident hz (by omega) hb0 hlb h3.left ((is_at _ h4).trans (by decide)) (fun _ => by rw [h4.get.2]; decide) b.size 0 rfl (Nat.zero_le _) [] rfl
  have hca := h1
  rw [hcl, List.cons_append] at hca
  have hdb' := h3
  rw [hdl, List.cons_append] at hdb'
  have s91 : At T 0 [91] := At.left (A := [91]) h0
  have g : ∀ (p : Nat) (c : UInt8), At T p [c] → number_digit.f (c.toNat : Int) = some false → c ≠ 46 → c ≠ 43 → c ≠ 45 → token_lexer_begins_1.f (c.toNat : Int) = some false → token_Letter.f (c.toNat : Int) = some false → (c.toNat : Int) ≠ 92 → ¬ ((c.toNat : Int) = 34 ∨ (c.toNat : Int) = 39) →
      (∃ q, strings_IndexByte.f (⟨#[44, 47, 58, 59, 123, 125, 91, 93, 40, 41]⟩ : ByteArray) (c.toNat : Int) = some q ∧ q ≥ 0) → Ev (fun k => wordF k T p) ((7 : Int), (⟨#[c]⟩ : ByteArray), (⟨#[]⟩ : ByteArray), p + 1) :=
    fun p c hp e1 e2 e3 e4 e5 e6 e7 e8 e9 => w_sign hp (scan0 hz hp ⟨e1, e2⟩ e3 (fun e => absurd e e4)) (beg_no hz hp e5 e6 e7) e8 e9
  have w0 := g 0 91 s91 (by decide) (by decide) (by decide) (by decide) (by decide) (by decide) (by decide) (by decide) ⟨_, rfl, by decide⟩
  have w3 := g _ 93 h4 (by decide) (by decide) (by decide) (by decide) (by decide) (by decide) (by decide) (by decide) ⟨_, rfl, by decide⟩
  have w1 := w_ident (l := a.data.toList) hca hsc hbg hi (by rw [data_length]; exact ha64) (by omega) ((is_at _ h2).trans (by decide))
  have w2 := w_ident (l := b.data.toList) hdb' hsd hbd hj (by rw [data_length]; exact hb64) (by omega) ((is_at _ h4).trans (by decide))
  rw [mk_list] at w1 w2
  have e4 : 1 + la.length + 1 + lb.length + 1 = T.size := by omega
  rw [e4] at w3
  refine tokens_ev (i := 0) (by omega) (sk_stop h0 (by decide) (by decide)) (Nat.zero_le _) (tk_step s91.get.1 (by decide) w0 (by omega) (sk_stop hca hcb hc47) (by omega) ?_)
  refine tk_step hca.get.1 (by simp) w1 (by omega) (sk_blank h2 (by decide) (sk_stop hdb' hdb hd47)) (by omega) ?_
  refine tk_step hdb'.get.1 (by simp) w2 (by omega) (sk_stop h4 (by decide) (by decide)) (by omega) ?_
  exact tk_step h4.get.1 (by simp) w3 (Nat.le_refl _) sk_end (Nat.le_refl _) tk_end
end
theorem write_name {s : ByteArray} (h1 : s.size ≤ 64) (hn : ident_Name.f s = some true) : ∃ l, ident_Write.cat s s.size = some l ∧ ident_Write.f s = some ⟨l.toArray⟩ := by
  obtain ⟨l, hl⟩ := write_cat s (by omega) s.size (Nat.le_refl _)
  refine ⟨l, hl, ?_⟩
  unfold ident_Write.f
  rw [hn, Option.bind_some, if_pos rfl, if_pos (by omega), hl]
  rfl
theorem ev_one {α : Type} {g : Nat → Option α} {r r' : α} (h : Ev g r) (h' : Ev g r') : r = r' := by
  obtain ⟨K, hK⟩ := h
  obtain ⟨L, hL⟩ := h'
  exact Option.some.inj ((hK (max K L) (by omega)).symm.trans (hL (max K L) (by omega)))
theorem write_apart {a b : ByteArray} {la lb : List UInt8} (ha1 : 0 < a.size) (ha64 : a.size ≤ 64) (ha0 : ∀ c ∈ a.data.toList, c ≠ 0) (hla : ident_Write.cat a a.size = some la)
    (hb1 : 0 < b.size) (hb64 : b.size ≤ 64) (hb0 : ∀ c ∈ b.data.toList, c ≠ 0) (hlb : ident_Write.cat b b.size = some lb) (h : la = lb) : a = b := by
  subst h
  have e := ev_one (written_tokens (by omega) ha1 ha64 ha0 hla) (written_tokens (by omega) hb1 hb64 hb0 hlb)
  simp only [Prod.mk.injEq, List.nil_append, List.cons_append, List.cons.injEq, S33.mk.injEq] at e
  exact e.1.1.2.2.1
theorem IdentApart : parterrelaw04_IdentApart.Pure := by
  intro a b ha hb
  refine Ev.rounds ?_
  simp only [parterrelaw04_IdentApart.f]
  have jT : Ev (fun k => parterrelaw04_IdentApart.j0 k a b true) true := ev_step (by simp only [parterrelaw04_IdentApart.j0]; exact ev_pos (by trivial) (ev_bindc ident_lives ev_some))
  rcases name_cases a with ⟨hna, a1, a64, a0⟩ | hna
  · refine ev_bindc hna (ev_pos rfl ?_)
    rcases name_cases b with ⟨hnb, b1, b64, b0⟩ | hnb
    · refine ev_bindc hnb ?_
      obtain ⟨la, hla, hwa⟩ := write_name a64 hna
      obtain ⟨lb, hlb, hwb⟩ := write_name b64 hnb
      have za := ident_Write.cat_len a _ _ hla
      have zb := ident_Write.cat_len b _ _ hlb
      have sa := mk_size la
      have sb := mk_size lb
      refine ev_step ?_
      simp only [parterrelaw04_IdentApart.j0, ByteArray.size_append, sa, sb]
      have hne : ¬ ((((⟨la.toArray⟩ : ByteArray).toList == (⟨lb.toArray⟩ : ByteArray).toList) != (a.toList == b.toList)) = true) := by
        rw [ByteArray.toList_eq, ByteArray.toList_eq, ByteArray.toList_eq, ByteArray.toList_eq]
        by_cases e : a = b
        · subst e
          rw [hla] at hlb
          obtain rfl := Option.some.inj hlb
          simp
        · have e1 : la ≠ lb := fun h => e (write_apart a1 a64 a0 hla b1 b64 b0 hlb h)
          have e2 : a.data.toList ≠ b.data.toList := fun h => e (Go.WideShapes.bytes_inj h)
          show ¬ (((la.toArray.toList == lb.toArray.toList) != (a.data.toList == b.data.toList)) = true)
          rw [List.toList_toArray, List.toList_toArray, beq_false_of_ne e1, beq_false_of_ne e2]
          decide
      have hTl : ((((((⟨#[91]⟩ : ByteArray) ++ ⟨la.toArray⟩) ++ (⟨#[32]⟩ : ByteArray)) ++ ⟨lb.toArray⟩) ++ (⟨#[93]⟩ : ByteArray)) : ByteArray).data.toList = 91 :: (la ++ (32 :: (lb ++ [93]))) := by
        rw [app_list, app_list, app_list, app_list]
        simp
      have hz1 : (⟨#[91]⟩ : ByteArray).size = 1 := rfl
      have hz2 : (⟨#[32]⟩ : ByteArray).size = 1 := rfl
      have hz3 : (⟨#[93]⟩ : ByteArray).size = 1 := rfl
      exact ev_neg (by decide) (ev_bindc hwa (ev_bindc hwb (ev_neg hne (ev_bindc hwa (ev_pos (by rw [sa]; omega) (ev_pos (by rw [sa]; omega) (ev_bindc hwb (ev_pos (by rw [sa, sb]; omega) (ev_pos (by rw [sa, sb]; omega) (ev_pos (by rw [sa, sb]; omega)
        (ev_bind (apart_tokens a1 a64 a0 hla b1 b64 b0 hlb hTl) (ev_pos rfl (ev_pos rfl (ev_pos (show (1 : Int) < ((5 : Nat) : Int) by decide) (ev_pos rfl (ev_pos (show (2 : Int) < ((5 : Nat) : Int) by decide) (ev_pos rfl (ev_bindc ident_lives ev_some))))))))))))))))))
    · exact ev_bindc hnb jT
  · exact ev_bindc hna (ev_neg (by decide) jT)
end Go.Proofs.Ytfccpnpocfjbcaa.Pure
