/- NumberAlike, as a statement on numbers. Conditions: none beyond the arguments' own kinds. -/
import Derived.Test.YtfccpnpocfjbcaaDoorPNtx13
import Derived.Test.YtfccpnpocfjbcaaDoorPureSt
set_option linter.unusedVariables false
set_option linter.unusedSimpArgs false
namespace Go.Proofs.YtfccpnpocfjbcaaDoor.PureAl
open Go.RowKit Go.Proofs.YtfccpnpocfjbcaaDoorW.PrintWords Go.Proofs.YtfccpnpocfjbcaaDoorW.PrintMore Go.Proofs.YtfccpnpocfjbcaaDoor.Evs Go.Proofs.YtfccpnpocfjbcaaDoor.Opn Go.Proofs.YtfccpnpocfjbcaaDoor.PNt Go.Proofs.YtfccpnpocfjbcaaDoor.Dig Go.Proofs.YtfccpnpocfjbcaaDoor.PureTu Go.Proofs.YtfccpnpocfjbcaaDoor.PureTw Go.Proofs.YtfccpnpocfjbcaaDoor.PureSh Go.Proofs.YtfccpnpocfjbcaaDoor.PureSt
open Go.Proofs.YtfccpnpocfjbcaaDoor.PureTx (dec body tail fr)
def zs (n : Nat) : ByteArray := ⟨(List.replicate n 48).toArray⟩
theorem zs_bytes (n : Nat) : bytesOf (zs n) = List.replicate n 48 := by
  unfold zs
  rw [bytes_mk, List.map_replicate]
  rfl
theorem zs_size (n : Nat) : (zs n).size = n := by rw [← bytesOf_length, zs_bytes, List.length_replicate]
theorem zs_next (n : Nat) : zs n ++ (⟨#[48]⟩ : ByteArray) = zs (n + 1) := by
  unfold zs
  apply ByteArray.ext
  apply Array.ext'
  rw [ByteArray.toList_data_append, List.replicate_succ']
theorem zs_D (n : Nat) : AllD (List.replicate n 48) := fun c hc => by
  obtain rfl := List.eq_of_mem_replicate hc
  decide
theorem zs_dig (n : Nat) : (List.replicate n 48).map dig = List.replicate n 0 := by
  rw [List.map_replicate]
  rfl
theorem m10_zero : ∀ n, m10 0 n = 0
  | 0 => rfl
  | n + 1 => by rw [m10_one, m10_zero n]; rfl
theorem expL_zs : ∀ n, expL (List.replicate n 48) 0 = 0
  | 0 => rfl
  | n + 1 => by
    show expL (List.replicate n 48) (min 1000 (10 * 0 + (48 - 48))) = 0
    exact expL_zs n
theorem expL_dec {m : Int} (h0 : 0 ≤ m) (h1 : m ≤ 99) : expL (bytesOf (dec m)) 0 = m := by
  by_cases h : m ≤ 9
  · rw [dec_small h0 h]
    show min 1000 (10 * 0 + (48 + m - 48)) = m
    omega
  · rw [dec_big (by omega), dec_small (by omega) (by omega)]
    show min 1000 (10 * min 1000 (10 * 0 + (48 + m / 10 - 48)) + (48 + m % 10 - 48)) = m
    omega
theorem txt1 {n : Int} (h0 : 0 ≤ n) (h1 : n ≤ 68719476736) : PureTx.Txt n 1 = dec n := by
  unfold PureTx.Txt
  rw [if_pos ⟨⟨by omega, h1⟩, Or.inl rfl⟩]
  unfold PureTx.txt body tail
  rw [if_neg (by omega), if_neg (by omega), PureTx.ap_nil, Int.ediv_one]
/-- A text of this shape, that is worth n. -/
theorem worth {s : ByteArray} {sg W ds E : List Int} {x : Int} (h : Sh s sg W ds E x) (hz : s.size ≤ 300) {sc : Int} (hsc : PureTx.IsScale sc) {n : Int} (h0 : 0 ≤ n) (h1 : n ≤ 1000000) (j : Nat)
    (hv : fo 0 ((W ++ ds).map dig) = m10 n j) (hj : (ds.length : Int) - x = j) : Val s sc = (if sg = [45] then (-(n * sc), 0) else (n * sc, 0)) := by
  have hb : 0 ≤ n * sc ∧ n * sc ≤ 1000000000 := by
    rcases hsc with rfl | rfl | rfl <;> omega
  rw [h.val hz (show PureTv.IsScale sc from hsc), hv, hj, ← m10_mul, S_m10 hb.1, if_pos (by omega)]
section
variable {sc n : Int} (hsc : PureTx.IsScale sc) (h0 : 0 ≤ n) (h1 : n ≤ 1000000)
include hsc h0 h1
theorem one_plain (p : ByteArray) (sg : List Int) (hp : bytesOf p = sg) (hsg : IsSg sg) (hz : p.size ≤ 1) : Val (p ++ dec n) sc = (if sg = [45] then (-(n * sc), 0) else (n * sc, 0)) := by
  have hd := PureTx.dec_size n h0 (by omega)
  refine worth (W := bytesOf (dec n)) (ds := []) (E := []) (x := 0) ⟨?_, hsg, dec_D h0, AllD.nil, Or.inl ⟨rfl, rfl⟩, Or.inl (dec_ne h0)⟩ (by rw [ByteArray.size_append]; omega) hsc h0 h1 0 ?_ rfl
  · rw [bytes_app, hp]
    show _ = sg ++ (bytesOf (dec n) ++ ([] ++ []))
    simp
  · rw [List.append_nil, dec_fo h0]
    rfl
theorem v0 : Val (dec n) sc = (n * sc, 0) := by
  have h := one_plain hsc h0 h1 ⟨#[]⟩ [] rfl (Or.inl rfl) (by decide)
  rw [PureTx.nil_ap, if_neg (by decide)] at h
  exact h
theorem v1 (m : Nat) (hm : m ≤ 19) : Val (zs m ++ dec n) sc = (n * sc, 0) ∧ (zs m ++ dec n).size ≤ 300 := by
  have hd := PureTx.dec_size n h0 (by omega)
  have hz := zs_size m
  have hs : (zs m ++ dec n).size ≤ 300 := by rw [ByteArray.size_append]; omega
  have h := worth (s := zs m ++ dec n) (sg := []) (W := List.replicate m 48 ++ bytesOf (dec n)) (ds := []) (E := []) (x := 0) ⟨?_, Or.inl rfl, (zs_D m).app (dec_D h0), AllD.nil, Or.inl ⟨rfl, rfl⟩, Or.inl (by simp [dec_ne h0])⟩ hs hsc h0 h1 0 ?_ rfl
  · rw [if_neg (by decide)] at h
    exact ⟨h, hs⟩
  · rw [bytes_app, zs_bytes]
    show _ = [] ++ ((List.replicate m 48 ++ bytesOf (dec n)) ++ ([] ++ []))
    simp
  · rw [List.append_nil, List.map_append, fo_app, zs_dig, fo_zeros, m10_zero, dec_fo h0]
    rfl
theorem v2 (m : Nat) (hm : m ≤ 19) : Val ((dec n ++ (⟨#[46, 48]⟩ : ByteArray)) ++ zs m) sc = (n * sc, 0) ∧ ((dec n ++ (⟨#[46, 48]⟩ : ByteArray)) ++ zs m).size ≤ 300 := by
  have hd := PureTx.dec_size n h0 (by omega)
  have hz := zs_size m
  have hs : ((dec n ++ (⟨#[46, 48]⟩ : ByteArray)) ++ zs m).size ≤ 300 := by
    rw [ByteArray.size_append, ByteArray.size_append]
    show _ + 2 + _ ≤ 300
    omega
  have h := worth (s := (dec n ++ (⟨#[46, 48]⟩ : ByteArray)) ++ zs m) (sg := []) (W := bytesOf (dec n)) (ds := List.replicate (m + 1) 48) (E := []) (x := 0) ⟨?_, Or.inl rfl, dec_D h0, zs_D _, Or.inl ⟨rfl, rfl⟩, Or.inl (dec_ne h0)⟩ hs hsc h0 h1 (m + 1) ?_ ?_
  · rw [if_neg (by decide)] at h
    exact ⟨h, hs⟩
  · rw [bytes_app, bytes_app, zs_bytes]
    show bytesOf (dec n) ++ [46, 48] ++ List.replicate m 48 = [] ++ (bytesOf (dec n) ++ (pt (48 :: List.replicate m 48) ++ []))
    unfold pt
    rw [if_neg (by simp)]
    simp
  · rw [List.map_append, fo_app, dec_fo h0, zs_dig, fo_zeros]
  · rw [List.length_replicate]
    omega
theorem v4 (m : Nat) (hm : m ≤ 19) : Val (((dec n ++ zs m) ++ (⟨#[101, 45]⟩ : ByteArray)) ++ dec (m : Int)) sc = (n * sc, 0) ∧ (((dec n ++ zs m) ++ (⟨#[101, 45]⟩ : ByteArray)) ++ dec (m : Int)).size ≤ 300 := by
  have hd := PureTx.dec_size n h0 (by omega)
  have hd2 := PureTx.dec_size (m : Int) (by omega) (by omega)
  have hz := zs_size m
  have hs : (((dec n ++ zs m) ++ (⟨#[101, 45]⟩ : ByteArray)) ++ dec (m : Int)).size ≤ 300 := by
    rw [ByteArray.size_append, ByteArray.size_append, ByteArray.size_append]
    show _ + _ + 2 + _ ≤ 300
    omega
  have h := worth (s := ((dec n ++ zs m) ++ (⟨#[101, 45]⟩ : ByteArray)) ++ dec (m : Int)) (sg := []) (W := bytesOf (dec n) ++ List.replicate m 48) (ds := []) (E := 101 :: ([45] ++ bytesOf (dec (m : Int)))) (x := -(m : Int))
    ⟨?_, Or.inl rfl, (dec_D h0).app (zs_D m), AllD.nil, Or.inr ⟨101, [45], bytesOf (dec (m : Int)), rfl, Or.inl rfl, Or.inr (Or.inr rfl), dec_ne (by omega), dec_D (by omega), by rw [if_pos rfl, expL_dec (by omega) (by omega)]⟩, Or.inl (by simp [dec_ne h0])⟩ hs hsc h0 h1 m ?_ ?_
  · rw [if_neg (by decide)] at h
    exact ⟨h, hs⟩
  · rw [bytes_app, bytes_app, bytes_app, zs_bytes]
    show bytesOf (dec n) ++ List.replicate m 48 ++ [101, 45] ++ bytesOf (dec (m : Int)) = [] ++ ((bytesOf (dec n) ++ List.replicate m 48) ++ ([] ++ (101 :: ([45] ++ bytesOf (dec (m : Int))))))
    simp
  · rw [List.append_nil, List.map_append, fo_app, dec_fo h0, zs_dig, fo_zeros]
  · show (0 : Int) - -(m : Int) = m
    omega
theorem v5 (m : Nat) (hm : m ≤ 19) (e : Int) (he : e = (m : Int) + (dec n).size) : Val ((((zs m ++ (⟨#[46]⟩ : ByteArray)) ++ zs m) ++ dec n) ++ (⟨#[69]⟩ : ByteArray) ++ dec e) sc = (n * sc, 0) ∧ ((((zs m ++ (⟨#[46]⟩ : ByteArray)) ++ zs m) ++ dec n) ++ (⟨#[69]⟩ : ByteArray) ++ dec e).size ≤ 300 := by
  have hd := PureTx.dec_size n h0 (by omega)
  have hd2 := PureTx.dec_size e (by omega) (by omega)
  have hz := zs_size m
  have hs : ((((zs m ++ (⟨#[46]⟩ : ByteArray)) ++ zs m) ++ dec n) ++ (⟨#[69]⟩ : ByteArray) ++ dec e).size ≤ 300 := by
    rw [ByteArray.size_append, ByteArray.size_append, ByteArray.size_append, ByteArray.size_append, ByteArray.size_append]
    show _ + 1 + _ + _ + 1 + _ ≤ 300
    omega
  have hne : List.replicate m 48 ++ bytesOf (dec n) ≠ [] := by simp [dec_ne h0]
  have h := worth (s := (((zs m ++ (⟨#[46]⟩ : ByteArray)) ++ zs m) ++ dec n) ++ (⟨#[69]⟩ : ByteArray) ++ dec e) (sg := []) (W := List.replicate m 48) (ds := List.replicate m 48 ++ bytesOf (dec n)) (E := 69 :: ([] ++ bytesOf (dec e))) (x := e)
    ⟨?_, Or.inl rfl, zs_D m, (zs_D m).app (dec_D h0), Or.inr ⟨69, [], bytesOf (dec e), rfl, Or.inr rfl, Or.inl rfl, dec_ne (by omega), dec_D (by omega), by rw [if_neg (by decide), expL_dec (by omega) (by omega)]⟩, Or.inr hne⟩ hs hsc h0 h1 0 ?_ ?_
  · rw [if_neg (by decide)] at h
    exact ⟨h, hs⟩
  · rw [bytes_app, bytes_app, bytes_app, bytes_app, bytes_app, zs_bytes]
    show List.replicate m 48 ++ [46] ++ List.replicate m 48 ++ bytesOf (dec n) ++ [69] ++ bytesOf (dec e) = [] ++ (List.replicate m 48 ++ (pt (List.replicate m 48 ++ bytesOf (dec n)) ++ (69 :: ([] ++ bytesOf (dec e)))))
    unfold pt
    rw [if_neg hne]
    simp
  · rw [List.map_append, List.map_append, fo_app, fo_app, zs_dig, fo_zeros, fo_zeros, m10_zero, m10_zero, dec_fo h0]
    rfl
  · rw [List.length_append, List.length_replicate, bytesOf_length]
    omega
theorem v6 (m : Nat) (hm : m ≤ 19) : Val ((dec n ++ (⟨#[101, 48]⟩ : ByteArray)) ++ zs m) sc = (n * sc, 0) ∧ ((dec n ++ (⟨#[101, 48]⟩ : ByteArray)) ++ zs m).size ≤ 300 := by
  have hd := PureTx.dec_size n h0 (by omega)
  have hz := zs_size m
  have hs : ((dec n ++ (⟨#[101, 48]⟩ : ByteArray)) ++ zs m).size ≤ 300 := by
    rw [ByteArray.size_append, ByteArray.size_append]
    show _ + 2 + _ ≤ 300
    omega
  have h := worth (s := (dec n ++ (⟨#[101, 48]⟩ : ByteArray)) ++ zs m) (sg := []) (W := bytesOf (dec n)) (ds := []) (E := 101 :: ([] ++ List.replicate (m + 1) 48)) (x := 0)
    ⟨?_, Or.inl rfl, dec_D h0, AllD.nil, Or.inr ⟨101, [], List.replicate (m + 1) 48, rfl, Or.inl rfl, Or.inl rfl, by simp, zs_D _, by rw [if_neg (by decide), expL_zs]⟩, Or.inl (dec_ne h0)⟩ hs hsc h0 h1 0 ?_ rfl
  · rw [if_neg (by decide)] at h
    exact ⟨h, hs⟩
  · rw [bytes_app, bytes_app, zs_bytes]
    show bytesOf (dec n) ++ [101, 48] ++ List.replicate m 48 = [] ++ (bytesOf (dec n) ++ ([] ++ (101 :: ([] ++ (48 :: List.replicate m 48)))))
    simp
  · rw [List.append_nil, dec_fo h0]
    rfl
end
theorem alike_l1 {sc n : Int} (hsc : PureTx.IsScale sc) (h0 : 0 ≤ n) (h1 : n ≤ 1000000) (l : List ByteArray) (hl : l.length ≤ 1000) (hv : ∀ t ∈ l, Val t sc = (n * sc, 0) ∧ t.size ≤ 300) :
    ∀ (d i : Nat), i + d = l.length → Ev (fun k => parterrelaw02_NumberAlike.l1 k sc (dec n) (n * sc) 0 l (l.length : Int) (i : Nat)) true
  | 0, i, hi => by
    have hd := PureTx.dec_size n h0 (by omega)
    have hb : 0 ≤ n * sc ∧ n * sc ≤ 1000000000 := by
      rcases hsc with rfl | rfl | rfl <;> omega
    refine ev_step ?_
    simp only [parterrelaw02_NumberAlike.l1]
    have hm := one_plain hsc h0 h1 ⟨#[45]⟩ [45] rfl (Or.inr (Or.inr rfl)) (by decide)
    rw [if_pos rfl] at hm
    have hz : ((⟨#[45]⟩ : ByteArray) ++ dec n).size ≤ 2000 := by
      rw [ByteArray.size_append]
      show 1 + _ ≤ 2000
      omega
    have he := nVal ((⟨#[45]⟩ : ByteArray) ++ dec n) hz sc
    rw [hm] at he
    refine ev_neg (by omega) (ev_pos (by omega) (ev_bind he (ev_pos rfl (ev_pos ?_ (ev_bind_some PureTx.lives_ev)))))
    show -(n * sc) = wrap64 (-(n * sc))
    rw [w64 (by omega) (by omega)]
  | d + 1, i, hi => by
    refine ev_step ?_
    simp only [parterrelaw02_NumberAlike.l1]
    have e : rdOf ByteArray.empty l ((i : Nat) : Int) = l[i] := by
      unfold rdOf
      rw [Int.toNat_natCast, List.getD_eq_getElem?_getD, List.getElem?_eq_getElem (by omega)]
      rfl
    obtain ⟨h2, h3⟩ := hv l[i] (List.getElem_mem _)
    have he := nVal l[i] (by omega) sc
    rw [h2] at he
    rw [e, w64 (x := (i : Int) + 1) (by omega) (by omega)]
    refine ev_pos (by omega) (ev_pos (by omega) (ev_pos (by omega) (ev_bind he (ev_pos rfl (ev_pos rfl ?_)))))
    exact alike_l1 hsc h0 h1 l hl hv d (i + 1) (by omega)
theorem alike_l0 {sc n : Int} (hsc : PureTx.IsScale sc) (h0 : 0 ≤ n) (h1 : n ≤ 1000000) (m : Nat) (hm : m ≤ 19) : ∀ (d i : Nat), i + d = m → Ev (fun k => parterrelaw02_NumberAlike.l0 k n sc (m : Nat) (zs i) (m : Nat) (i : Nat)) true
  | 0, i, hi => by
    obtain rfl : i = m := by omega
    have hd := PureTx.dec_size n h0 (by omega)
    have hd2 := PureTx.dec_size (i : Int) (by omega) (by omega)
    have hz := zs_size i
    refine ev_step ?_
    simp only [parterrelaw02_NumberAlike.l0]
    have t1 := PureTx.nText n 1
    rw [txt1 h0 (by omega)] at t1
    have t2 := PureTx.nText (i : Int) 1
    rw [txt1 (by omega) (by omega)] at t2
    have ew : wrap64 ((i : Int) + ((dec n).size : Int)) = (i : Int) + (dec n).size := w64 (by omega) (by omega)
    have t3 := PureTx.nText ((i : Int) + (dec n).size) 1
    rw [txt1 (by omega) (by omega)] at t3
    have hd3 := PureTx.dec_size ((i : Int) + (dec n).size) (by omega) (by omega)
    have hw := nVal (dec n) (by omega) sc
    rw [v0 hsc h0 h1] at hw
    have z46 : (⟨#[46]⟩ : ByteArray).size = 1 := rfl
    have z69 : (⟨#[69]⟩ : ByteArray).size = 1 := rfl
    have z2 : (⟨#[46, 48]⟩ : ByteArray).size = 2 := rfl
    have z3 : (⟨#[101, 45]⟩ : ByteArray).size = 2 := rfl
    have z4 : (⟨#[101, 48]⟩ : ByteArray).size = 2 := rfl
    refine ev_neg (by omega) (ev_bind t1 (ev_bind hw (ev_pos (by omega) (ev_pos (by omega) (ev_pos (by simp only [ByteArray.size_append]; omega) (ev_pos (by omega) (ev_pos (by omega) (ev_pos (by simp only [ByteArray.size_append]; omega) (ev_bind t2 (ev_pos (by simp only [ByteArray.size_append]; omega)
      (ev_pos (by omega) (ev_pos (by simp only [ByteArray.size_append]; omega) (ev_pos (by simp only [ByteArray.size_append]; omega) (ev_pos (by simp only [ByteArray.size_append]; omega) ?_)))))))))))))) 
    rw [ew]
    refine ev_bind t3 (ev_pos (by simp only [ByteArray.size_append]; omega) (ev_pos (by simp only [ByteArray.size_append]; omega) (ev_bindc rfl ?_)))
    refine alike_l1 hsc h0 h1 _ (by show 6 ≤ 1000; omega) ?_ 6 0 rfl
    intro t ht
    simp only [List.mem_cons, List.not_mem_nil, or_false] at ht
    rcases ht with rfl | rfl | rfl | rfl | rfl | rfl
    · exact v1 hsc h0 h1 i hm
    · exact v2 hsc h0 h1 i hm
    · have h := one_plain hsc h0 h1 ⟨#[43]⟩ [43] rfl (Or.inr (Or.inl rfl)) (by decide)
      rw [if_neg (by decide)] at h
      refine ⟨h, ?_⟩
      rw [ByteArray.size_append]
      show 1 + _ ≤ 300
      omega
    · exact v4 hsc h0 h1 i hm
    · exact v5 hsc h0 h1 i hm _ rfl
    · exact v6 hsc h0 h1 i hm
  | d + 1, i, hi => by
    have hz := zs_size i
    refine ev_step ?_
    simp only [parterrelaw02_NumberAlike.l0]
    rw [zs_next, w64 (x := (i : Int) + 1) (by omega) (by omega)]
    refine ev_pos (by omega) (ev_pos (by omega) ?_)
    exact alike_l0 hsc h0 h1 m hm d (i + 1) (by omega)
theorem alike_go {sc n : Int} (hsc : PureTx.IsScale sc) (h0 : 0 ≤ n) (h1 : n ≤ 1000000) (m : Int) (hm0 : 0 ≤ m) (hm : m ≤ 19) : Ev (fun k => parterrelaw02_NumberAlike.l0 k n sc m (⟨#[]⟩ : ByteArray) m 0) true := by
  obtain ⟨j, rfl⟩ := Int.eq_ofNat_of_zero_le hm0
  exact alike_l0 hsc h0 h1 j (by omega) j 0 (by omega)
end Go.Proofs.YtfccpnpocfjbcaaDoor.PureAl
namespace Go.Proofs.YtfccpnpocfjbcaaDoor.Pure
open Go.RowKit Go.Proofs.YtfccpnpocfjbcaaDoorW.PrintWords Go.Proofs.YtfccpnpocfjbcaaDoorW.PrintMore Go.Proofs.YtfccpnpocfjbcaaDoor.Evs Go.Proofs.YtfccpnpocfjbcaaDoor.Opn Go.Proofs.YtfccpnpocfjbcaaDoor.PNt Go.Proofs.YtfccpnpocfjbcaaDoor.PureAl Go.Proofs.YtfccpnpocfjbcaaDoor.PureSt
theorem NumberAlike : parterrelaw02_NumberAlike.Pure := by
  intro n a b hn ha hb
  refine Ev.rounds ?_
  unfold parterrelaw02_NumberAlike.f
  have hm := twenty a
  refine ev_ite (fun h => ?_) (fun h => ev_ite (fun h1 => ?_) (fun h1 => ev_ite (fun h2 => ?_) (fun h2 => ?_)))
  · refine ev_ite (fun k => ?_) (fun k => ?_)
    · refine ev_step ?_
      simp only [parterrelaw02_NumberAlike.j0]
      exact ev_pos trivial (ev_bind_some PureTx.lives_ev)
    · refine ev_step ?_
      simp only [parterrelaw02_NumberAlike.j0]
      exact ev_ite (fun _ => ev_bind_some PureTx.lives_ev) (fun k2 => alike_go (Or.inl rfl) (by omega) (by simpa using k2) _ hm.1 hm.2)
  · refine ev_ite (fun k => ?_) (fun k => ?_)
    · refine ev_step ?_
      simp only [parterrelaw02_NumberAlike.j3]
      exact ev_pos trivial (ev_bind_some PureTx.lives_ev)
    · refine ev_step ?_
      simp only [parterrelaw02_NumberAlike.j3]
      exact ev_ite (fun _ => ev_bind_some PureTx.lives_ev) (fun k2 => alike_go (Or.inr (Or.inl rfl)) (by omega) (by simpa using k2) _ hm.1 hm.2)
  · refine ev_ite (fun k => ?_) (fun k => ?_)
    · refine ev_step ?_
      simp only [parterrelaw02_NumberAlike.j4]
      exact ev_pos trivial (ev_bind_some PureTx.lives_ev)
    · refine ev_step ?_
      simp only [parterrelaw02_NumberAlike.j4]
      exact ev_ite (fun _ => ev_bind_some PureTx.lives_ev) (fun k2 => alike_go (Or.inr (Or.inr rfl)) (by omega) (by simpa using k2) _ hm.1 hm.2)
  · rcases three b with k | k | k
    · exact absurd k h
    · exact absurd k h1
    · exact absurd k h2
end Go.Proofs.YtfccpnpocfjbcaaDoor.Pure
