/- Numbers' texts, and what they are worth. Conditions: as each statement says. -/
import Derived.Test.YtfccpnpocfjbcaaDoorPNtx3
import Derived.Test.YtfccpnpocfjbcaaDoorPNtx6
import Derived.Test.YtfccpnpocfjbcaaDoorPNtx8
import Derived.Test.YtfccpnpocfjbcaaDoorPureSh
import Derived.Test.YtfccpnpocfjbcaaDoorPureTx
set_option linter.unusedVariables false
set_option linter.unusedSimpArgs false
namespace Go.Proofs.YtfccpnpocfjbcaaDoor.PureSt
open Go.RowKit Go.Proofs.YtfccpnpocfjbcaaDoorW.PrintWords Go.Proofs.YtfccpnpocfjbcaaDoorW.PrintMore Go.Proofs.YtfccpnpocfjbcaaDoor.Evs Go.Proofs.YtfccpnpocfjbcaaDoor.Opn Go.Proofs.YtfccpnpocfjbcaaDoor.PNt Go.Proofs.YtfccpnpocfjbcaaDoor.Dig Go.Proofs.YtfccpnpocfjbcaaDoor.PureTu Go.Proofs.YtfccpnpocfjbcaaDoor.PureTw Go.Proofs.YtfccpnpocfjbcaaDoor.PureSh
open Go.Proofs.YtfccpnpocfjbcaaDoor.PureTx (dec fr gone body tail txt Txt)
theorem bytes_mk (l : List UInt8) : bytesOf ⟨l.toArray⟩ = l.map fun b => (b.toNat : Int) := rfl
theorem byte_of {n : Nat} (h : n ≤ 9) : ((UInt8.ofNat (48 + n)).toNat : Int) = 48 + n := by
  rw [UInt8.toNat_ofNat']
  omega
theorem dec_small {n : Int} (h0 : 0 ≤ n) (h1 : n ≤ 9) : bytesOf (dec n) = [48 + n] := by
  rw [PureTx.dec_one n h0 h1]
  show [((UInt8.ofNat (48 + n.toNat)).toNat : Int)] = _
  rw [byte_of (by omega), Int.toNat_of_nonneg h0]
theorem dec_big {n : Int} (h : 10 ≤ n) : bytesOf (dec n) = bytesOf (dec (n / 10)) ++ [48 + n % 10] := by
  unfold dec
  rw [bytes_mk, bytes_mk]
  conv => lhs; rw [Lib.decDigits, dif_neg (show ¬ n.toNat < 10 by omega)]
  rw [List.map_append, show (n / 10).toNat = n.toNat / 10 by omega]
  congr 1
  show [((UInt8.ofNat (48 + n.toNat % 10)).toNat : Int)] = _
  rw [byte_of (by omega), show ((n.toNat % 10 : Nat) : Int) = n % 10 by omega]
theorem isD_of {c : Int} (h0 : 48 ≤ c) (h1 : c ≤ 57) : isD c = true := decide_eq_true ⟨h0, h1⟩
theorem dig_of' {d : Int} (h0 : 0 ≤ d) (h1 : d ≤ 9) : dig (48 + d) = d := by
  unfold dig
  omega
theorem dec_all : ∀ (m : Nat) (n : Int), n.toNat = m → 0 ≤ n → AllD (bytesOf (dec n)) ∧ bytesOf (dec n) ≠ [] ∧ fo 0 ((bytesOf (dec n)).map dig) = n := by
  intro m
  induction m using Nat.strongRecOn with
  | _ m ih =>
    intro n hm h0
    by_cases h : n ≤ 9
    · rw [dec_small h0 h]
      refine ⟨fun c hc => ?_, by simp, ?_⟩
      · obtain rfl := List.mem_singleton.1 hc
        exact isD_of (by omega) (by omega)
      · show 10 * 0 + dig (48 + n) = n
        rw [dig_of' h0 h]
        omega
    · have hi := ih (n / 10).toNat (by omega) (n / 10) rfl (by omega)
      rw [dec_big (by omega)]
      refine ⟨hi.1.app (fun c hc => ?_), by simp, ?_⟩
      · obtain rfl := List.mem_singleton.1 hc
        exact isD_of (by omega) (by omega)
      · rw [List.map_append, fo_app, hi.2.2]
        show 10 * (n / 10) + dig (48 + n % 10) = n
        rw [dig_of' (by omega) (by omega)]
        omega
theorem dec_D {n : Int} (h : 0 ≤ n) : AllD (bytesOf (dec n)) := (dec_all _ n rfl h).1
theorem dec_ne {n : Int} (h : 0 ≤ n) : bytesOf (dec n) ≠ [] := (dec_all _ n rfl h).2.1
theorem dec_fo {n : Int} (h : 0 ≤ n) : fo 0 ((bytesOf (dec n)).map dig) = n := (dec_all _ n rfl h).2.2
theorem fr_D {sc : Int} (hs : PureTx.IsScale sc) : ∀ (j : Nat) (left : Int), 0 ≤ left → left < sc → AllD (bytesOf (fr sc j left))
  | 0, left, h0, h1 => AllD.nil
  | j + 1, left, h0, h1 => by
    have hb := PureTx.left_bd hs h0 h1
    unfold fr
    split
    · rw [bytes_app]
      exact (dec_D hb.1).app (fr_D hs j _ hb.2.2.1 hb.2.2.2)
    · exact AllD.nil
theorem fr_val {sc : Int} (hs : PureTx.IsScale sc) : ∀ (j : Nat) (left A : Int), 0 ≤ left → left < sc → gone sc j left = true → fo A ((bytesOf (fr sc j left)).map dig) * sc = m10 (A * sc + left) (bytesOf (fr sc j left)).length
  | 0, left, A, h0, h1, hg => by
    have hl : left = 0 := of_decide_eq_true hg
    subst hl
    show A * sc = A * sc + 0
    omega
  | j + 1, left, A, h0, h1, hg => by
    have hb := PureTx.left_bd hs h0 h1
    have hi := fr_val hs j (10 * left % sc) (10 * A + 10 * left / sc) hb.2.2.1 hb.2.2.2 hg
    unfold fr
    by_cases h2 : left > 0
    · rw [if_pos h2, bytes_app, dec_small hb.1 hb.2.1]
      show fo (10 * A + dig (48 + 10 * left / sc)) ((bytesOf (fr sc j (10 * left % sc))).map dig) * sc = m10 (10 * (A * sc + left)) (bytesOf (fr sc j (10 * left % sc))).length
      rw [dig_of' hb.1 hb.2.1, hi]
      congr 1
      have e := Int.mul_ediv_add_emod (10 * left) sc
      rw [Int.add_mul, Int.mul_assoc, Int.mul_comm (10 * left / sc) sc]
      omega
    · have hl : left = 0 := by omega
      subst hl
      rw [if_neg h2]
      show A * sc = A * sc + 0
      omega
theorem fr_zero (sc : Int) (j : Nat) : fr sc j 0 = ⟨#[]⟩ := by
  cases j with
  | zero => rfl
  | succ j =>
    unfold fr
    rw [if_neg (by omega)]
theorem tail_pt {sc : Int} (hs : PureTx.IsScale sc) {n : Int} (h0 : 0 ≤ n) (h1 : n ≤ 68719476736) : bytesOf (tail sc n) = pt (bytesOf (fr sc 6 (n % sc))) := by
  have hb := PureTx.div_bd hs h0 h1
  unfold tail pt
  by_cases h : n % sc > 0
  · rw [if_pos h, if_neg, bytes_app]
    · rfl
    · unfold fr
      rw [if_pos h, bytes_app]
      intro k
      have := List.append_eq_nil_iff.1 k
      exact dec_ne (PureTx.left_bd hs hb.2.2.1 hb.2.2.2).1 this.1
  · have e : n % sc = 0 := by omega
    rw [if_neg h, e, fr_zero, if_pos (show bytesOf (⟨#[]⟩ : ByteArray) = [] from rfl)]
    rfl
/-- A length's text behind a sign. -/
theorem text_sh {sc : Int} (hs : PureTx.IsScale sc) {n : Int} (h0 : 0 ≤ n) (h1 : n ≤ 68719476736) (p : ByteArray) (sg : List Int) (hp : bytesOf p = sg) (hsg : IsSg sg) :
    Sh (p ++ body sc n) sg (bytesOf (dec (n / sc))) (bytesOf (fr sc 6 (n % sc))) [] 0 := by
  have hb := PureTx.div_bd hs h0 h1
  refine ⟨?_, hsg, dec_D hb.1, fr_D hs 6 _ hb.2.2.1 hb.2.2.2, Or.inl ⟨rfl, rfl⟩, Or.inl (dec_ne hb.1)⟩
  unfold body
  rw [bytes_app, bytes_app, hp, tail_pt hs h0 h1, List.append_nil]
theorem text_val {sc : Int} (hs : PureTx.IsScale sc) {n : Int} (h0 : 0 ≤ n) (h1 : n ≤ 68719476736) : fo 0 ((bytesOf (dec (n / sc)) ++ bytesOf (fr sc 6 (n % sc))).map dig) * sc = m10 n (bytesOf (fr sc 6 (n % sc))).length := by
  have hb := PureTx.div_bd hs h0 h1
  rw [List.map_append, fo_app, dec_fo hb.1, fr_val hs 6 _ _ hb.2.2.1 hb.2.2.2 (PureTx.gone_of hs hb.2.2.1 hb.2.2.2)]
  congr 1
  have := Int.mul_ediv_add_emod n sc
  rw [Int.mul_comm] at this
  exact this
theorem body_size {sc : Int} (hs : PureTx.IsScale sc) {n : Int} (h0 : 0 ≤ n) (h1 : n ≤ 68719476736) : (body sc n).size ≤ 40 := by
  have hb := PureTx.div_bd hs h0 h1
  have h2 := PureTx.dec_size (n / sc) hb.1 (by omega)
  have h3 := PureTx.fr_size hs 6 (n % sc) hb.2.2.1 hb.2.2.2
  unfold body tail
  rw [ByteArray.size_append]
  split
  · rw [ByteArray.size_append]
    show _ + (1 + _) ≤ 40
    omega
  · show _ + 0 ≤ 40
    omega
theorem back_val {sc : Int} (hs : PureTx.IsScale sc) {n : Int} (h0 : 0 ≤ n) (h1 : n ≤ 68719476736) (p : ByteArray) (sg : List Int) (hp : bytesOf p = sg) (hsg : IsSg sg) (hz : p.size ≤ 1) :
    Val (p ++ body sc n) sc = (if sg = [45] then (-n, 0) else (n, 0)) ∧ noNum (p ++ body sc n) = false ∧ endOf (p ++ body sc n) = (p ++ body sc n).size := by
  have h := text_sh hs h0 h1 p sg hp hsg
  refine ⟨?_, h.noNum_eq, h.exp.1⟩
  have hb := body_size hs h0 h1
  rw [h.val (by rw [ByteArray.size_append]; omega) (show PureTv.IsScale sc from hs), text_val hs h0 h1, Int.sub_zero, S_m10 h0, if_pos h1]
/-- A length comes back from its text. -/
theorem txt_back {sc : Int} (hs : PureTx.IsScale sc) {n : Int} (hn : PureTx.Is n) : Val (txt sc n) sc = (n, 0) ∧ noNum (txt sc n) = false ∧ endOf (txt sc n) = (txt sc n).size ∧ (txt sc n).size ≤ 60 := by
  unfold PureTx.Is at hn
  unfold txt
  by_cases h : n < 0
  · rw [if_pos h]
    have h2 := back_val hs (n := -n) (by omega) (by omega) ⟨#[45]⟩ [45] rfl (Or.inr (Or.inr rfl)) (by decide)
    rw [if_pos rfl, Int.neg_neg] at h2
    have hb := body_size hs (n := -n) (by omega) (by omega)
    refine ⟨h2.1, h2.2.1, h2.2.2, ?_⟩
    rw [ByteArray.size_append]
    show 1 + _ ≤ 60
    omega
  · rw [if_neg h]
    have h2 := back_val hs (n := n) (by omega) (by omega) ⟨#[]⟩ [] rfl (Or.inl rfl) (by decide)
    rw [if_neg (by decide), PureTx.nil_ap] at h2
    have hb := body_size hs (n := n) (by omega) (by omega)
    exact ⟨h2.1, h2.2.1, h2.2.2, by omega⟩
theorem u64_bd (a : Int) : 0 ≤ IntKind.u64.wrap a := by
  simp only [IntKind.wrap, IntKind.signed, IntKind.bits]
  simp
  omega
/-- One of three. -/
theorem three (a : Int) : wrap64 (Int.tmod (IntKind.u64.wrap a) 3) = 0 ∨ wrap64 (Int.tmod (IntKind.u64.wrap a) 3) = 1 ∨ wrap64 (Int.tmod (IntKind.u64.wrap a) 3) = 2 := by
  have h := u64_bd a
  rw [Int.tmod_eq_emod_of_nonneg h, w64 (by omega) (by omega)]
  omega
theorem twenty (a : Int) : 0 ≤ wrap64 (Int.tmod (IntKind.u64.wrap a) 20) ∧ wrap64 (Int.tmod (IntKind.u64.wrap a) 20) ≤ 19 := by
  have h := u64_bd a
  rw [Int.tmod_eq_emod_of_nonneg h, w64 (by omega) (by omega)]
  omega
end Go.Proofs.YtfccpnpocfjbcaaDoor.PureSt
