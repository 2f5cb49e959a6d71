/- Escapes: what the program tells of one is what the document tells, byte for byte. Conditions: as the statement says. -/
import Derived.Test.YtfccpnpocfjbcaaPTkx2
import Derived.Test.YtfccpnpocfjbcaaPTkx3
import Derived.Test.YtfccpnpocfjbcaaPTkx4
import Derived.Test.YtfccpnpocfjbcaaPTkx5
import Derived.Test.YtfccpnpocfjbcaaPTkx6
import Derived.Test.YtfccpnpocfjbcaaPTkx9
import Derived.Test.YtfccpnpocfjbcaaPTkx10
import Derived.Test.YtfccpnpocfjbcaaPTkx11
import Derived.Test.YtfccpnpocfjbcaaPTkx12
import Derived.Test.YtfccpnpocfjbcaaEv
set_option linter.unusedVariables false
set_option linter.unusedSimpArgs false
namespace Go.Proofs.Ytfccpnpocfjbcaa.Pure
open Go.RowKit Go.Proofs.YtfccpnpocfjbcaaW.PrintWords Go.Proofs.YtfccpnpocfjbcaaW.PrintMore Go.Proofs.Ytfccpnpocfjbcaa.Evs Go.Proofs.Ytfccpnpocfjbcaa.Opn Go.Proofs.Ytfccpnpocfjbcaa.PTk Go.Proofs.Ytfccpnpocfjbcaa.Giv

/-! ### The 256 bytes -/
def fine (c : Int) : Bool := (decide (token_hex.f 3 c = parterreref03_hex.f 3 c)) && (((token_hex.f 3 c).map (fun t => decide (-1 ≤ t ∧ t ≤ 15)) == some true) && (decide (token_blank.f c = parterreref03_Blank.f c) && ((token_blank.f c).isSome && (decide (token_feed.f c = parterreref03_feed.f c) && ((token_feed.f c).isSome && (decide (token_Letter.f c = parterreref03_Letter.f c) && (token_Letter.f c).isSome))))))
theorem fine_all : (List.range 256).all (fun n => fine (n : Int)) = true := by decide +kernel
theorem byte_all (c : Int) (h0 : 0 ≤ c) (h1 : c ≤ 255) : (∃ v, -1 ≤ v ∧ v ≤ 15 ∧ Ev (fun k => token_hex.f k c) v ∧ Ev (fun k => parterreref03_hex.f k c) v) ∧ (∃ v, token_blank.f c = some v ∧ parterreref03_Blank.f c = some v) ∧ (∃ v, token_feed.f c = some v ∧ parterreref03_feed.f c = some v) ∧ (∃ v, token_Letter.f c = some v ∧ parterreref03_Letter.f c = some v) := by
  have h := List.all_eq_true.1 fine_all c.toNat (List.mem_range.2 (by omega))
  rw [Int.toNat_of_nonneg h0] at h
  simp only [fine, Bool.and_eq_true, decide_eq_true_eq, beq_iff_eq] at h
  obtain ⟨h1, h2, h3, h4, h5, h6, h7, h8⟩ := h
  obtain ⟨v, e, hv⟩ := Option.map_eq_some_iff.1 h2
  have hv := of_decide_eq_true hv
  obtain ⟨b, eb⟩ := Option.isSome_iff_exists.1 h4
  obtain ⟨f, ef⟩ := Option.isSome_iff_exists.1 h6
  obtain ⟨l, el⟩ := Option.isSome_iff_exists.1 h8
  exact ⟨⟨v, hv.1, hv.2, Ev.of (token_hex.mono c) e, Ev.of (parterreref03_hex.mono c) (h1 ▸ e)⟩, ⟨b, eb, h3 ▸ eb⟩, ⟨f, ef, h5 ▸ ef⟩, ⟨l, el, h7 ▸ el⟩⟩

/-! ### A character's bytes -/
theorem or192 (y : Int) (h0 : 0 ≤ y) (h1 : y < 32) : Go.bits .or .u8 192 y = 192 + y := by
  have h : (List.range 32).all (fun n => decide (Go.bits .or .u8 192 (n : Int) = 192 + (n : Int))) = true := by decide +kernel
  have := of_decide_eq_true (List.all_eq_true.1 h y.toNat (List.mem_range.2 (by omega)))
  rwa [Int.toNat_of_nonneg h0] at this
theorem or224 (y : Int) (h0 : 0 ≤ y) (h1 : y < 16) : Go.bits .or .u8 224 y = 224 + y := by
  have h : (List.range 16).all (fun n => decide (Go.bits .or .u8 224 (n : Int) = 224 + (n : Int))) = true := by decide +kernel
  have := of_decide_eq_true (List.all_eq_true.1 h y.toNat (List.mem_range.2 (by omega)))
  rwa [Int.toNat_of_nonneg h0] at this
theorem or240 (y : Int) (h0 : 0 ≤ y) (h1 : y < 8) : Go.bits .or .u8 240 y = 240 + y := by
  have h : (List.range 8).all (fun n => decide (Go.bits .or .u8 240 (n : Int) = 240 + (n : Int))) = true := by decide +kernel
  have := of_decide_eq_true (List.all_eq_true.1 h y.toNat (List.mem_range.2 (by omega)))
  rwa [Int.toNat_of_nonneg h0] at this
def chr (m : Int) : List Int := if m < 128 then [m] else if m < 2048 then [192 + m / 64, 128 + m % 64] else if m < 65536 then [224 + m / 4096, 128 + m / 64 % 64, 128 + m % 64] else [240 + m / 262144, 128 + m / 4096 % 64, 128 + m / 64 % 64, 128 + m % 64]
theorem append_ev (m : Int) (h0 : 0 < m) (h1 : m ≤ 1114111) (h2 : ¬ (55296 ≤ m ∧ m ≤ 57343)) : Ev (fun k => utf8_AppendRune.f k ([] : List Int) m) (chr m) := by
  have hm : m % 4294967296 = m := by omega
  simp only [utf8_AppendRune.f, hm]
  unfold chr
  refine ev_ite (fun c => ?_) (fun c => ?_)
  · rw [if_pos (by omega : m < 128)]
    refine ev_pos (by simp) (ev_eq ?_)
    rw [List.nil_append, (by omega : m % 256 = m)]
  · rw [if_neg (by omega : ¬ m < 128)]
    refine ev_bind_some ?_
    simp only [utf8_appendRuneNonASCII.f, hm]
    refine ev_ite (fun c1 => ?_) (fun c1 => ?_)
    · rw [if_pos (by omega : m < 2048)]
      refine ev_bind ev_some (ev_pos (by simp) (ev_eq ?_))
      rw [List.nil_append, (by omega : m / 64 % 256 = m / 64), or192 _ (by omega) (by omega)]
    · rw [if_neg (by omega : ¬ m < 2048)]
      have j3 : m < 65536 → Ev (fun k => utf8_appendRuneNonASCII.j0 k ([] : List Int) m m true) [224 + m / 4096, 128 + m / 64 % 64, 128 + m % 64] := fun h => by
        refine ev_step ?_
        simp only [utf8_appendRuneNonASCII.j0]
        refine ev_pos trivial (ev_bind ev_some (ev_pos (by simp) (ev_eq ?_)))
        rw [List.nil_append, (by omega : m / 4096 % 256 = m / 4096), or224 _ (by omega) (by omega)]
      have j4 : 65535 < m → Ev (fun k => utf8_appendRuneNonASCII.j0 k ([] : List Int) m m false) [240 + m / 262144, 128 + m / 4096 % 64, 128 + m / 64 % 64, 128 + m % 64] := fun h => by
        refine ev_step ?_
        simp only [utf8_appendRuneNonASCII.j0]
        refine ev_neg (by decide) (ev_pos (by omega) (ev_pos (by omega) (ev_bind ev_some (ev_pos (by simp) (ev_eq ?_)))))
        rw [List.nil_append, (by omega : m / 262144 % 256 = m / 262144), or240 _ (by omega) (by omega)]
      refine ev_ite (fun c2 => ?_) (fun c2 => ?_)
      · rw [if_pos (by omega : m < 65536), decide_eq_true c2]
        exact j3 (by omega)
      · refine ev_pos (by omega) ?_
        by_cases c3 : m < 65536
        · rw [if_pos c3, decide_eq_true (by omega : m ≤ 65535)]
          exact j3 c3
        · rw [if_neg c3, decide_eq_false (by omega : ¬ m ≤ 65535)]
          exact j4 (by omega)
def real (n : Int) : Int := if n = 0 ∨ (55296 ≤ n ∧ n ≤ 57343) ∨ n > 1114111 then 65533 else n
theorem real_fine (n : Int) (h0 : 0 ≤ n) : 0 < real n ∧ real n ≤ 1114111 ∧ ¬ (55296 ≤ real n ∧ real n ≤ 57343) := by
  unfold real
  split <;> omega
theorem character_ev (n : Int) (h0 : 0 ≤ n) : Ev (fun k => token_character.f k n) (strOfNums (chr (real n))) := by
  have hl : Ev (fun k => utf8_AppendRune.f k ([] : List Int) 65533) (chr 65533) := append_ev 65533 (by decide) (by decide) (by decide)
  simp only [token_character.f]
  refine ev_ite (fun c => ?_) (fun c => ?_)
  · have e : real n = 65533 := by unfold real; rw [if_pos (Or.inl c)]
    rw [e]
    exact ev_bind hl ev_some
  · have j0 : ∀ b : Bool, (b = true ↔ 55296 ≤ n ∧ n ≤ 57343) → Ev (fun k => token_character.j0 k n b) (strOfNums (chr (real n))) := fun b hb => by
      refine ev_step ?_
      simp only [token_character.j0]
      refine ev_ite (fun c1 => ?_) (fun c1 => ?_)
      · have e : real n = 65533 := by unfold real; rw [if_pos (Or.inr (Or.inl (hb.1 c1)))]
        rw [e]
        exact ev_bind hl ev_some
      · refine ev_ite (fun c2 => ?_) (fun c2 => ?_)
        · have e : real n = 65533 := by unfold real; rw [if_pos (Or.inr (Or.inr c2))]
          rw [e]
          exact ev_bind hl ev_some
        · have e : real n = n := by
            unfold real
            rw [if_neg]
            rintro (h | h | h)
            · exact c h
            · exact c1 (hb.2 h)
            · exact c2 h
          have hr := real_fine n h0
          rw [e] at hr ⊢
          have ew : wrap32 n = n := by unfold wrap32; omega
          rw [ew]
          exact ev_bind (append_ev n hr.1 hr.2.1 hr.2.2) ev_some
    refine ev_ite (fun c1 => j0 _ ?_) (fun c1 => j0 _ ?_)
    · rw [decide_eq_true_eq]
      exact ⟨fun h => ⟨c1, h⟩, fun h => h.2⟩
    · constructor
      · intro h
        cases h
      · intro h
        exact absurd h.1 c1
theorem td (m k : Int) (h : 0 ≤ m) : Int.tdiv m k = m / k := Int.tdiv_eq_ediv_of_nonneg h
theorem tm (m k : Int) (h : 0 ≤ m) : Int.tmod m k = m % k := Int.tmod_eq_emod_of_nonneg h
theorem utf_ev (n : Int) (h0 : 0 ≤ n) : Ev (fun k => parterreref03_UTF8.f k n) (strOfNums (chr (real n))) := by
  have j1 : ∀ m : Int, 0 ≤ m → m ≤ 1114111 → Ev (fun k => parterreref03_UTF8.j1 k m) (strOfNums (chr m)) := fun m g0 g1 => by
    refine ev_step ?_
    simp only [parterreref03_UTF8.j1]
    unfold chr
    refine ev_ite (fun c => ?_) (fun c => ?_)
    · rw [if_pos c, (by omega : m % 256 = m)]
      exact ev_some
    · rw [if_neg c]
      refine ev_ite (fun c1 => ?_) (fun c1 => ?_)
      · rw [if_pos c1, (by rw [td _ _ g0]; exact w64 (by omega) (by omega) : wrap64 (Int.tdiv m 64) = m / 64), (by rw [w64 (by omega) (by omega)]; omega : wrap64 (192 + m / 64) % 256 = 192 + m / 64), (by rw [tm _ _ g0, w64 (by omega) (by omega)]; omega : wrap64 (128 + Int.tmod m 64) % 256 = 128 + m % 64)]
        exact ev_some
      · rw [if_neg c1]
        refine ev_ite (fun c2 => ?_) (fun c2 => ?_)
        · rw [if_pos c2, (by rw [td _ _ g0]; exact w64 (by omega) (by omega) : wrap64 (Int.tdiv m 64) = m / 64), (by rw [td _ _ g0]; exact w64 (by omega) (by omega) : wrap64 (Int.tdiv m 4096) = m / 4096), (by rw [w64 (by omega) (by omega)]; omega : wrap64 (224 + m / 4096) % 256 = 224 + m / 4096), (by rw [tm _ _ g0, w64 (by omega) (by omega)]; omega : wrap64 (128 + Int.tmod m 64) % 256 = 128 + m % 64), (by rw [tm _ _ (by omega), w64 (by omega) (by omega)]; omega : wrap64 (128 + Int.tmod (m / 64) 64) % 256 = 128 + m / 64 % 64)]
          exact ev_some
        · rw [if_neg c2, (by rw [td _ _ g0]; exact w64 (by omega) (by omega) : wrap64 (Int.tdiv m 64) = m / 64), (by rw [td _ _ g0]; exact w64 (by omega) (by omega) : wrap64 (Int.tdiv m 4096) = m / 4096), (by rw [td _ _ g0]; exact w64 (by omega) (by omega) : wrap64 (Int.tdiv m 262144) = m / 262144), (by rw [w64 (by omega) (by omega)]; omega : wrap64 (240 + m / 262144) % 256 = 240 + m / 262144), (by rw [tm _ _ g0, w64 (by omega) (by omega)]; omega : wrap64 (128 + Int.tmod m 64) % 256 = 128 + m % 64), (by rw [tm _ _ (by omega), w64 (by omega) (by omega)]; omega : wrap64 (128 + Int.tmod (m / 64) 64) % 256 = 128 + m / 64 % 64), (by rw [tm _ _ (by omega), w64 (by omega) (by omega)]; omega : wrap64 (128 + Int.tmod (m / 4096) 64) % 256 = 128 + m / 4096 % 64)]
          exact ev_some
  have hr := real_fine n h0
  have jt : real n = 65533 → Ev (fun k => parterreref03_UTF8.j0 k n true) (strOfNums (chr (real n))) := fun e => by
    rw [e]
    refine ev_step ?_
    simp only [parterreref03_UTF8.j0]
    exact ev_pos (by trivial) (j1 _ (by decide) (by decide))
  have jd : real n = (if n > 1114111 then 65533 else n) → Ev (fun k => parterreref03_UTF8.j0 k n (decide (n > 1114111))) (strOfNums (chr (real n))) := fun e => by
    by_cases c : n > 1114111
    · rw [if_pos c] at e
      rw [decide_eq_true c]
      exact jt e
    · rw [if_neg c] at e
      rw [decide_eq_false c, e]
      refine ev_step ?_
      simp only [parterreref03_UTF8.j0]
      exact ev_neg (by decide) (j1 _ h0 (by omega))
  simp only [parterreref03_UTF8.f]
  refine ev_ite (fun c => jt ?_) (fun c => ev_ite (fun c1 => ev_ite (fun c2 => jt ?_) (fun c2 => jd ?_)) (fun c1 => jd ?_))
  · unfold real
    rw [if_pos (Or.inl c)]
  · unfold real
    rw [if_pos (Or.inr (Or.inl ⟨c1, c2⟩))]
  · unfold real
    split <;> split <;> omega
  · unfold real
    split <;> split <;> omega

/-! ### An escape -/
theorem j2_ev (s : ByteArray) (hs : s.size ≤ 3000) (at' n kk : Int) (h0 : 0 ≤ at') (h1 : at' + 2 ≤ s.size) (hn : 0 ≤ n) (hk0 : 0 ≤ kk) (hk : kk ≤ 6) : ∃ r, Ev (fun k => token_Hex.j2 k s at' n kk) r ∧ Ev (fun k => parterreref03_Hex.j2 k s at' n kk) r := by
  have e1 : wrap64 (at' + 1) = at' + 1 := w64 (by omega) (by omega)
  have e2 : wrap64 (at' + 2) = at' + 2 := w64 (by omega) (by omega)
  have e3 : wrap64 (at' + 1 + kk) = at' + 1 + kk := w64 (by omega) (by omega)
  have e4 : wrap64 (wrap64 (at' + 1 + kk + 1) - at') = kk + 2 := by rw [w64 (x := at' + 1 + kk + 1) (by omega) (by omega), w64 (by omega) (by omega)]; omega
  have e5 : wrap64 (at' + 1 + kk - at') = kk + 1 := by rw [w64 (by omega) (by omega)]; omega
  have e6 : wrap64 (kk + 2) = kk + 2 := w64 (by omega) (by omega)
  have e7 : wrap64 (kk + 1) = kk + 1 := w64 (by omega) (by omega)
  have hc := character_ev n hn
  have hu := utf_ev n hn
  by_cases c : kk = 0
  · refine ⟨(s.extract (at' + 1).toNat (at' + 2).toNat, 2), ev_step ?_, ev_step ?_⟩
    · simp only [token_Hex.j2, e1, e2]
      exact ev_pos c (ev_pos (by omega) (ev_pos (by omega) (ev_pos (by omega) ev_some)))
    · simp only [parterreref03_Hex.j2, e1, e2]
      exact ev_pos c (ev_pos (by omega) (ev_pos (by omega) (ev_pos (by omega) ev_some)))
  · have j3 : ∀ b : Bool, Ev (fun k => parterreref03_Hex.j3 k n kk b) (strOfNums (chr (real n)), if b = true then kk + 2 else kk + 1) := fun b => by
      refine ev_step ?_
      simp only [parterreref03_Hex.j3, e6, e7]
      cases b
      · exact ev_neg (by decide) (ev_bind hu ev_some)
      · exact ev_pos (by trivial) (ev_bind hu ev_some)
    by_cases c1 : at' + 1 + kk < (s.size : Int)
    · obtain ⟨_, ⟨b, hb1, hb2⟩, _⟩ := byte_all (bt s (at' + 1 + kk)) (bt_range _ _).1 (bt_range _ _).2
      refine ⟨(strOfNums (chr (real n)), if b = true then kk + 2 else kk + 1), ev_step ?_, ev_step ?_⟩
      · simp only [token_Hex.j2, e1, e3, e4, e5]
        refine ev_neg c (ev_pos c1 (ev_pos (by omega) (ev_bindc hb1 ?_)))
        cases b
        · exact ev_neg (by decide) (ev_bind hc ev_some)
        · exact ev_pos (by trivial) (ev_bind hc ev_some)
      · simp only [parterreref03_Hex.j2, e1, e3]
        exact ev_neg c (ev_pos c1 (ev_pos (by omega) (ev_bindc hb2 (j3 b))))
    · refine ⟨(strOfNums (chr (real n)), kk + 1), ev_step ?_, ev_step ?_⟩
      · simp only [token_Hex.j2, e1, e3, e5]
        exact ev_neg c (ev_neg c1 (ev_bind hc ev_some))
      · simp only [parterreref03_Hex.j2, e1, e3]
        exact ev_neg c (ev_neg c1 (j3 false))
theorem l0_ev (s : ByteArray) (hs : s.size ≤ 3000) (at' : Int) (h0 : 0 ≤ at') (h1 : at' + 2 ≤ s.size) : ∀ (d : Nat) (n kk : Int), kk + d = 6 → 0 ≤ kk → 0 ≤ n → (n + 1) * 16 ^ d ≤ 16 ^ 6 → ∃ r, Ev (fun k => token_Hex.l0 k s at' n kk kk) r ∧ Ev (fun k => parterreref03_Hex.l0 k s at' n kk) r := by
  intro d
  induction d with
  | zero =>
    intro n kk hd hk0 hn hb
    obtain ⟨r, hr1, hr2⟩ := j2_ev s hs at' n kk h0 h1 hn hk0 (by omega)
    refine ⟨r, ev_step ?_, ev_step ?_⟩
    · simp only [token_Hex.l0]
      exact ev_neg (by omega) hr1
    · simp only [parterreref03_Hex.l0]
      exact ev_neg (by omega) hr2
  | succ d ih =>
    intro n kk hd hk0 hn hb
    obtain ⟨r, hr1, hr2⟩ := j2_ev s hs at' n kk h0 h1 hn hk0 (by omega)
    have e1 : wrap64 (at' + 1) = at' + 1 := w64 (by omega) (by omega)
    have e3 : wrap64 (at' + 1 + kk) = at' + 1 + kk := w64 (by omega) (by omega)
    have e7 : wrap64 (kk + 1) = kk + 1 := w64 (by omega) (by omega)
    by_cases c1 : at' + 1 + kk < (s.size : Int)
    · obtain ⟨⟨v, hv0, hv1, hh1, hh2⟩, _⟩ := byte_all (bt s (at' + 1 + kk)) (bt_range _ _).1 (bt_range _ _).2
      by_cases c2 : v < 0
      · refine ⟨r, ev_step ?_, ev_step ?_⟩
        · simp only [token_Hex.l0, e1, e3]
          exact ev_pos (by omega) (ev_neg (by omega) (ev_pos (by omega) (ev_pos (by omega) (ev_bind hh1 (ev_pos c2 hr1)))))
        · simp only [parterreref03_Hex.l0, e1, e3]
          exact ev_pos (by omega) (ev_pos (by omega) (ev_pos (by omega) (ev_bind hh2 (ev_neg (by omega) hr2))))
      · have hq : (16 : Int) ^ (d + 1) = 16 * 16 ^ d := by rw [Int.pow_succ, Int.mul_comm]
        have hp : 0 < (16 : Int) ^ d := Int.pow_pos (by decide)
        have hb' : (16 * n + v + 1) * 16 ^ d ≤ 16 ^ 6 := by
          refine Int.le_trans ?_ hb
          rw [hq, ← Int.mul_assoc]
          exact Int.mul_le_mul_of_nonneg_right (by omega) (Int.le_of_lt hp)
        have hlim : 16 * n + v + 1 ≤ 16 ^ 6 := by
          refine Int.le_trans ?_ hb'
          have h3 : (16 * n + v + 1) * 1 ≤ (16 * n + v + 1) * 16 ^ d := Int.mul_le_mul_of_nonneg_left (by omega) (by omega)
          rwa [Int.mul_one] at h3
        have hlim' : 16 * n + v + 1 ≤ 16777216 := hlim
        obtain ⟨r', h1', h2'⟩ := ih (16 * n + v) (kk + 1) (by omega) (by omega) (by omega) hb'
        have e8 : wrap64 (wrap64 (n * 16) + v) = 16 * n + v := by rw [w64 (x := n * 16) (by omega) (by omega), w64 (by omega) (by omega)]; omega
        have e9 : wrap64 (wrap64 (16 * n) + v) = 16 * n + v := by rw [w64 (x := 16 * n) (by omega) (by omega), w64 (by omega) (by omega)]
        refine ⟨r', ev_step ?_, ev_step ?_⟩
        · simp only [token_Hex.l0, e1, e3, e7]
          refine ev_pos (by omega) (ev_neg (by omega) (ev_pos (by omega) (ev_pos (by omega) (ev_bind hh1 (ev_neg c2 (ev_bind hh1 ?_))))))
          rw [e8]
          exact h1'
        · simp only [parterreref03_Hex.l0, e1, e3, e7]
          refine ev_pos (by omega) (ev_pos (by omega) (ev_pos (by omega) (ev_bind hh2 (ev_pos (by omega) (ev_bind hh2 ?_)))))
          rw [e9]
          exact h2'
    · refine ⟨r, ev_step ?_, ev_step ?_⟩
      · simp only [token_Hex.l0, e1, e3]
        exact ev_pos (by omega) (ev_pos (by omega) hr1)
      · simp only [parterreref03_Hex.l0, e1, e3]
        exact ev_pos (by omega) (ev_neg (by omega) hr2)
theorem hex_ev (s : ByteArray) (hs : s.size ≤ 3000) (at' : Int) (g0 : -9223372036854775808 ≤ at') (g1 : at' ≤ 9223372036854775807) : ∃ r, Ev (fun k => token_Hex.f k s at') r ∧ Ev (fun k => parterreref03_Hex.f k s at') r := by
  have e0 : wrap64 ((s.size : Int) - 2) = (s.size : Int) - 2 := w64 (by omega) (by omega)
  have jt : Ev (fun k => token_Hex.j0 k s at' true) ((⟨#[]⟩ : ByteArray), (0 : Int)) := ev_step (by simp only [token_Hex.j0]; exact ev_pos (by trivial) ev_some)
  have ju : Ev (fun k => parterreref03_Hex.j0 k s at' true) ((⟨#[]⟩ : ByteArray), (0 : Int)) := ev_step (by simp only [parterreref03_Hex.j0]; exact ev_pos (by trivial) ev_some)
  by_cases c0 : at' < 0
  · refine ⟨((⟨#[]⟩ : ByteArray), 0), ?_, ?_⟩
    · simp only [token_Hex.f]
      exact ev_pos c0 jt
    · simp only [parterreref03_Hex.f]
      exact ev_pos c0 ju
  · by_cases c1 : at' > (s.size : Int) - 2
    · refine ⟨((⟨#[]⟩ : ByteArray), 0), ?_, ?_⟩
      · simp only [token_Hex.f, e0]
        exact ev_neg c0 (ev_pos c1 jt)
      · simp only [parterreref03_Hex.f, e0]
        exact ev_neg c0 (ev_pos c1 ju)
    · have e1 : wrap64 (at' + 1) = at' + 1 := w64 (by omega) (by omega)
      obtain ⟨_, _, ⟨f, hf1, hf2⟩, _⟩ := byte_all (bt s (at' + 1)) (bt_range _ _).1 (bt_range _ _).2
      have key : ∃ r, Ev (fun k => if bt s at' = 92 then (if 0 ≤ at' + 1 then (if at' + 1 < (s.size : Int) then ((token_feed.f (bt s (at' + 1))).bind fun t => token_Hex.j0 k s at' t) else none) else none) else token_Hex.j0 k s at' true) r ∧ Ev (fun k => if bt s at' = 92 then (if 0 ≤ at' + 1 then (if at' + 1 < (s.size : Int) then ((parterreref03_feed.f (bt s (at' + 1))).bind fun t => parterreref03_Hex.j0 k s at' t) else none) else none) else parterreref03_Hex.j0 k s at' true) r := by
        by_cases c2 : bt s at' = 92
        · cases f
          · obtain ⟨r, h1, h2⟩ := l0_ev s hs at' (by omega) (by omega) 6 0 0 (by decide) (by decide) (by decide) (by decide)
            refine ⟨r, ev_pos c2 (ev_pos (by omega) (ev_pos (by omega) (ev_bindc hf1 (ev_step ?_)))), ev_pos c2 (ev_pos (by omega) (ev_pos (by omega) (ev_bindc hf2 (ev_step ?_))))⟩
            · simp only [token_Hex.j0]
              exact ev_neg (by decide) h1
            · simp only [parterreref03_Hex.j0]
              exact ev_neg (by decide) h2
          · exact ⟨_, ev_pos c2 (ev_pos (by omega) (ev_pos (by omega) (ev_bindc hf1 jt))), ev_pos c2 (ev_pos (by omega) (ev_pos (by omega) (ev_bindc hf2 ju)))⟩
        · exact ⟨_, ev_neg c2 jt, ev_neg c2 ju⟩
      obtain ⟨r, h1, h2⟩ := key
      refine ⟨r, ?_, ?_⟩
      · simp only [token_Hex.f, e0, e1]
        exact ev_neg c0 (ev_neg c1 (ev_pos (by omega) (ev_pos (by omega) h1)))
      · simp only [parterreref03_Hex.f, e0, e1]
        exact ev_neg c0 (ev_neg c1 (ev_pos (by omega) (ev_pos (by omega) h2)))
theorem lives_told : parterrelaw03_lives.f 40 = some true := by decide +kernel
theorem lives_ev : Ev (fun k => parterrelaw03_lives.f k) true := Ev.of (parterrelaw03_lives.mono) lives_told
theorem TokenEscapes : parterrelaw03_TokenEscapes.Pure := by
  intro s at' c hs hat hc
  obtain ⟨g0, g1⟩ := i64_bd hat
  have hc' : 0 ≤ c ∧ c ≤ 255 := by
    simp [gInt, Lit.wf, IntKind.min, IntKind.max, IntKind.signed, IntKind.bits] at hc
    omega
  refine Ev.rounds ?_
  simp only [parterrelaw03_TokenEscapes.f]
  refine ev_ite (fun _ => ev_bind_some lives_ev) (fun h => ?_)
  obtain ⟨r, h1, h2⟩ := hex_ev s (by omega) at' g0 g1
  obtain ⟨_, _, _, ⟨l, hl1, hl2⟩⟩ := byte_all c hc'.1 hc'.2
  refine ev_bind h1 (ev_bind h2 (ev_pos (by trivial) (ev_pos rfl (ev_bindc hl1 (ev_bindc hl2 (ev_pos (by simp) (ev_bind_some lives_ev)))))))
end Go.Proofs.Ytfccpnpocfjbcaa.Pure
