-- Written by a program of this session (wip/p2) out of the translation; Lean checks it.
import Derived.Test.YtaalmkkekbhpnaaSq
import Derived.Test.YtaalmkkekbhpnaaPRax0
import Derived.Test.YtaalmkkekbhpnaaPRax1
import Derived.Test.YtaalmkkekbhpnaaPRax5
namespace Go.Proofs.Ytaalmkkekbhpnaa.PRa
open Go.RowKit Go.Proofs.YtaalmkkekbhpnaaW.PrintWords Go.Proofs.YtaalmkkekbhpnaaW.PrintLast Go.Proofs.YtaalmkkekbhpnaaW.PrintMore
attribute [local go_sem] max2_int min2_int max_two min_two max_three min_three max_four min_four   -- for this text's walks alone
set_option linter.unusedVariables false
set_option linter.unusedSimpArgs false
open Go.Proofs.Ytaalmkkekbhpnaa.Opn Go.Proofs.Ytaalmkkekbhpnaa.Giv

attribute [local go_sem high] eqA34
/-! ### line_Good: function 13 -/
def line_Good.j0 : Nat → Bool → Int → Int → ByteArray → Option (Bool)
 | 0, _, _, _, _ => none
 | k + 1, x3, x137000, x137001, x137002 => if x137000 = 1 then ((line_auto.f).bind fun bt138 => (some (x137000 == bt138.1 && (x137001 == bt138.2.1 && (x137002.toList == bt138.2.2.toList))))) else (if x137000 = 2 then (if x137001 = 0 then (some false) else (if x137001 ≥ (-10000) then (if x137001 ≤ 10000 then (some x3) else (some false)) else (some false))) else (if x137000 = 3 then (if x137001 = 0 then (if x137002.toList = ([] : List UInt8) then (some false) else (some x3)) else (some false)) else (if x137000 = 4 then (if x137001 ≥ 1 then (if x137001 ≤ 10000 then (some x3) else (some false)) else (some false)) else (some false))))
def line_Good.f (k : Nat) (a0_0 : Int) (a0_1 : Int) (a0_2 : ByteArray) : Option (Bool) := if a0_2.toList = ([] : List UInt8) then (line_Good.j0 k true a0_0 a0_1 a0_2) else ((ident_Custom.f a0_2).bind fun t137 => (line_Good.j0 k t137 a0_0 a0_1 a0_2))
theorem line_Good.mono_l : ∀ k, (∀ y0 y1 y2 y3, LeO (line_Good.j0 k y0 y1 y2 y3) (line_Good.j0 (k + 1) y0 y1 y2 y3))
 | 0 => fun _ _ _ _ r h => by simp [line_Good.j0] at h
 | k + 1 => by
  have ih0 := line_Good.mono_l k
  ·intro y0 y1 y2 y3
   unfold line_Good.j0
   repeat' first
   | (with_reducible exact ih0 _ _ _ _)
   | (with_reducible exact LeO.refl _)
   | (with_reducible exact LeO.none _)
   | (with_reducible refine LeO.ite ?_ ?_)
   | (with_reducible refine LeO.bind ?_ (fun _ => ?_))
theorem line_Good.mono : ∀ a0 a1 a2 k, LeO (line_Good.f k a0 a1 a2) (line_Good.f (k + 1) a0 a1 a2) := by
 intro a0 a1 a2 k
 have ih0 := line_Good.mono_l k
 unfold line_Good.f
 repeat' first
   | (with_reducible exact ih0 _ _ _ _)
   | (with_reducible exact LeO.refl _)
   | (with_reducible exact LeO.none _)
   | (with_reducible refine LeO.ite ?_ ?_)
   | (with_reducible refine LeO.bind ?_ (fun _ => ?_))
set_option maxHeartbeats 8000000 in
set_option maxRecDepth 100000 in
theorem line_Good.calls (k : Nat) (a0_0 : Int) (a0_1 : Int) (a0_2 : ByteArray) (r : Bool) (w : World) (h : line_Good.f k a0_0 a0_1 a0_2 = some r) :
  Calls Try.prog 13 #[.agg #[.int .i64 a0_0, .int .i64 a0_1, .string a0_2]] w fun e w' => e = .returned (.bool r) ∧ Below w.heap.size w w' := by
 have hu34 := Try.underlying34
 have HB := Aside0.mk (Below.refl w.heap.size w)
 have H : (if a0_2.toList = ([] : List UInt8) then (line_Good.j0 k true a0_0 a0_1 a0_2) else ((ident_Custom.f a0_2).bind fun t137 => (line_Good.j0 k t137 a0_0 a0_1 a0_2))) = some r := h
 clear h
 have HC2 := Aside0.mk H
 clear H
 go_enter Try.func13, Try.ntmps13
 go_upto_region 1 with (first | ((with_reducible refine gate_dst (N := 1) rfl ?_); refine box_event ?hg (N := 1) ?hd (cs := #[.int .i64 a0_0, .int .i64 a0_1, .string a0_2]) (t := 34) ?hr ?_; (case hd => rfl); (case hg => rfl); (case hr => first | (go_simp; done) | (go_simp; rfl)); intro gb136 hg w3 hbox hb; have n0_ := Aside0.mk (below_step bel_ hb); have n1_ := Aside0.mk (hbox); have n2_ := Aside0.mk ((bsz_ hg : w.heap.size ≤ gb136)); have n3_ := Aside0.mk ((bsz_ hg : w.heap.size ≤ gb136)); clear HB; have HB := n0_; have BK136 := n1_; have GW136 := n2_; have GE136 := n3_; clear n0_ n1_ n2_ n3_; clear hb hbox hg))
 (try simp only [Act.put, List.setIfInBounds_toArray, List.set_cons_zero, List.set_cons_succ])
 go_cut [3] (fun v3 wc => ∃ (kq : Nat) (x3_1 : Bool), v3 = .bool x3_1 ∧ Aside0 (line_Good.j0 kq x3_1 a0_0 a0_1 a0_2 = some r) ∧ Aside0 (kq ≤ k) ∧ Aside0 (wc.heap[gb136]? = some (.cells #[.int .i64 a0_0, .int .i64 a0_1, .string a0_2] 34 (0, 0))) ∧ Aside0 (Below w.heap.size w wc))
 case first =>
  have H := HC2.out
  clear HC2
  by_cases c4 : a0_2.toList = ([] : List UInt8)
  ·rw [if_pos c4] at H
   have c4b0 : (a0_2.toList == ([] : List UInt8)) = true := beq_iff_eq.mpr c4
   have c4b1 : (a0_2.toList != ([] : List UInt8)) = false := bne_eq_false_iff_eq.mpr c4
   clear c4
   (first | rw [c4b0] | (simp only [i64_w, i32_w]; rw [c4b0]) | skip)
   have H' := Aside0.mk H
   clear H
   have hcz5_0 : w3.cell? ⟨gb136, 0, none⟩ = some (.int .i64 a0_0) := (blk_cell BK136.out 0).trans rfl
   have hcz5_1 : w3.cell? ⟨gb136, 1, none⟩ = some (.int .i64 a0_1) := (blk_cell BK136.out 1).trans rfl
   have hcz5_2 : w3.cell? ⟨gb136, 2, none⟩ = some (.string a0_2) := (blk_cell BK136.out 2).trans rfl
   have hfz5_0 := blk_frozen BK136.out 0
   have hfz5_1 := blk_frozen BK136.out 1
   have hfz5_2 := blk_frozen BK136.out 2
   go_wp2
   go_meet
   case rel => exact ⟨_, (true), rfs_, (by first | exact H' | (subst_vars; exact H')), ⟨ole_⟩, ⟨blk_⟩, ⟨bel_⟩⟩
  ·rw [if_neg c4] at H
   have c4b0 : (a0_2.toList == ([] : List UInt8)) = false := beq_eq_false_iff_ne.mpr c4
   have c4b1 : (a0_2.toList != ([] : List UInt8)) = true := bne_iff_ne.mpr c4
   (first | rw [c4b0] | (simp only [i64_w, i32_w]; rw [c4b0]) | skip)
   replace H := Option.bind_eq_some_iff.mp H
   obtain ⟨t137, A60, H⟩ := H
   try dsimp only at H
   have A6 := Aside0.mk A60
   clear A60
   have H' := Aside0.mk H
   clear H
   have hcz7_0 : w3.cell? ⟨gb136, 0, none⟩ = some (.int .i64 a0_0) := (blk_cell BK136.out 0).trans rfl
   have hcz7_1 : w3.cell? ⟨gb136, 1, none⟩ = some (.int .i64 a0_1) := (blk_cell BK136.out 1).trans rfl
   have hcz7_2 : w3.cell? ⟨gb136, 2, none⟩ = some (.string a0_2) := (blk_cell BK136.out 2).trans rfl
   have hfz7_0 := blk_frozen BK136.out 0
   have hfz7_1 := blk_frozen BK136.out 1
   have hfz7_2 := blk_frozen BK136.out 2
   go_wp2_with (first | (go_at_call 21; (with_reducible refine (ident_Custom.calls a0_2 t137 _ A6.out).mono ?_); rintro e w8 ⟨rfl, hb⟩; have n0_ := blb_ BK136 hb; have n1_ := Aside0.mk (below_step bel_ hb); clear BK136; clear HB; have BK136 := n0_; have HB := n1_; clear n0_ n1_; clear hb))
   go_meet
   case rel => exact ⟨_, (t137), rfs_, (by first | exact H' | (subst_vars; exact H')), ⟨ole_⟩, ⟨blk_⟩, ⟨bel_⟩⟩
 case rest =>
  clear HC2
  try clear c1
  try clear p2
  try clear c4
  try clear c4b0
  try clear c4b1
  try clear hcz5_0
  try clear hcz5_1
  try clear hcz5_2
  try clear hcz7_0
  try clear hcz7_1
  try clear hcz7_2
  try clear hfz5_0
  try clear hfz5_1
  try clear hfz5_2
  try clear hfz7_0
  try clear hfz7_1
  try clear hfz7_2
  obtain ⟨kq, x3_1, rfl, HA, HJ1, BK136, HB⟩ := hcut
  cases kq with
  | zero => exact absurd HA.out (by simp [line_Good.j0])
  | succ kj1 =>
   have H := HA.out
   clear HA
   simp only [line_Good.j0] at H
   by_cases c9 : a0_0 = 1
   ·rw [if_pos c9] at H
    have c9b0 : (a0_0 == 1) = true := beq_iff_eq.mpr c9
    have c9b1 : (a0_0 != 1) = false := bne_eq_false_iff_eq.mpr c9
    clear c9
    replace H := Option.bind_eq_some_iff.mp H
    obtain ⟨⟨t138, t139, t140⟩, A100, H⟩ := H
    try dsimp only at H
    have A10 := Aside0.mk A100
    clear A100
    obtain rfl := Option.some.inj H
    have hcz11_0 : wc.cell? ⟨gb136, 0, none⟩ = some (.int .i64 a0_0) := (blk_cell BK136.out 0).trans rfl
    have hcz11_1 : wc.cell? ⟨gb136, 1, none⟩ = some (.int .i64 a0_1) := (blk_cell BK136.out 1).trans rfl
    have hcz11_2 : wc.cell? ⟨gb136, 2, none⟩ = some (.string a0_2) := (blk_cell BK136.out 2).trans rfl
    have hfz11_0 := blk_frozen BK136.out 0
    have hfz11_1 := blk_frozen BK136.out 1
    have hfz11_2 := blk_frozen BK136.out 2
    try go_wp2
    have n0_ := Aside0.mk (blk_drew BK136.out)
    have n1_ := Aside0.mk (below_drew1 HB.out)
    clear BK136
    clear HB
    have BK136 := n0_
    have HB := n1_
    clear n0_ n1_
    refine start_ (n := 4) (S := fun w' => w'.cell? ⟨gb136, 0, none⟩ = some (.int .i64 a0_0) ∧ w'.cell? ⟨gb136, 1, none⟩ = some (.int .i64 a0_1) ∧ w'.cell? ⟨gb136, 2, none⟩ = some (.string a0_2)) (ds := []) #[false, false, false, false] (by kernel_rfl) rfl rfl ⟨(blk_cell BK136.out 0).trans rfl, (blk_cell BK136.out 1).trans rfl, (blk_cell BK136.out 2).trans rfl⟩ (fun hHeld => ?_)
    generalize wc.drew = w12 at BK136 HB hHeld ⊢
    refine take_ (i := 0) (N := some 16) (v := ?_) (a' := ?_) #[true, false, false, false] rfl rfl (by kernel_rfl) (fun _ _ _ h => h) (Or.inl ⟨by rfl, ?_⟩) hHeld ?_ ?_
    rotate_left
    ·rintro w' ⟨s0, s1, s2⟩
     go_simp
     with_reducible rfl
    rotate_left
    ·simp only [Act.put, List.setIfInBounds_toArray, List.set_cons_zero, List.set_cons_succ, i64_w, i32_w]
     rfl
    refine one_ (i := 1) (N := some 17) #[true, true, false, false] rfl rfl (by kernel_rfl) (by decide) (fun K hK => ?_)
    refine goes_ Try.func22 (by kernel_rfl) rfl #[] (by rfl) rfl rfl goa_ ?_
    with_reducible refine (line_auto.calls  t138 t139 t140 _ A10.out).mono ?_
    rintro e w13 ⟨rfl, hb⟩
    refine ⟨_, rfl, ?_⟩
    have n0_ := blb_ BK136 hb
    have n1_ := Aside0.mk (below_step bel_ hb)
    clear BK136
    clear HB
    have BK136 := n0_
    have HB := n1_
    clear n0_ n1_
    (try clear hb)
    (try clear hb2)
    (try clear hk)
    (try clear hi)
    refine hK.out _ _ ⟨(blk_cell BK136.out 0).trans rfl, (blk_cell BK136.out 1).trans rfl, (blk_cell BK136.out 2).trans rfl⟩ (fun hHeld => ?_)
    clear hK K
    refine norm_ (a' := ?_) ?_ ?_
    rotate_left
    ·show Act.put _ (some 17) _ = _
     simp only [Act.put, List.setIfInBounds_toArray, List.set_cons_zero, List.set_cons_succ, i64_w, i32_w]
     rfl
    refine pure_ (i := 2) (N := some 18) (v := ?_) (a' := ?_) #[true, true, true, false] rfl rfl (by kernel_rfl) (fun _ _ _ h => h) (Or.inl ⟨by rfl, ?_⟩) ?_ ?_
    rotate_left
    ·intro w'
     go_simp
     with_reducible rfl
    rotate_left
    ·simp only [Act.put, List.setIfInBounds_toArray, List.set_cons_zero, List.set_cons_succ, i64_w, i32_w]
     rfl
    refine pure_ (i := 3) (N := some 2) (v := ?_) (a' := ?_) #[true, true, true, true] rfl rfl (by kernel_rfl) (fun _ _ _ h => h) (Or.inl ⟨by rfl, ?_⟩) ?_ ?_
    rotate_left
    ·intro w'
     go_simp
     with_reducible rfl
    rotate_left
    ·simp only [Act.put, List.setIfInBounds_toArray, List.set_cons_zero, List.set_cons_succ, i64_w, i32_w]
     rfl
    refine done_ (by kernel_rfl) ?_
    try go_wp2
    go_ret
    exact ⟨rsl_, bel_⟩
   ·rw [if_neg c9] at H
    have c9b0 : (a0_0 == 1) = false := beq_eq_false_iff_ne.mpr c9
    have c9b1 : (a0_0 != 1) = true := bne_iff_ne.mpr c9
    by_cases c14 : a0_0 = 2
    ·rw [if_pos c14] at H
     have c14b0 : (a0_0 == 2) = true := beq_iff_eq.mpr c14
     have c14b1 : (a0_0 != 2) = false := bne_eq_false_iff_eq.mpr c14
     clear c14
     by_cases c15 : a0_1 = 0
     ·rw [if_pos c15] at H
      have c15b0 : (a0_1 == 0) = true := beq_iff_eq.mpr c15
      have c15b1 : (a0_1 != 0) = false := bne_eq_false_iff_eq.mpr c15
      clear c15
      obtain rfl := Option.some.inj H
      have hcz16_0 : wc.cell? ⟨gb136, 0, none⟩ = some (.int .i64 a0_0) := (blk_cell BK136.out 0).trans rfl
      have hcz16_1 : wc.cell? ⟨gb136, 1, none⟩ = some (.int .i64 a0_1) := (blk_cell BK136.out 1).trans rfl
      have hcz16_2 : wc.cell? ⟨gb136, 2, none⟩ = some (.string a0_2) := (blk_cell BK136.out 2).trans rfl
      have hfz16_0 := blk_frozen BK136.out 0
      have hfz16_1 := blk_frozen BK136.out 1
      have hfz16_2 := blk_frozen BK136.out 2
      go_wp2
      go_ret
      exact ⟨rsl_, bel_⟩
     ·rw [if_neg c15] at H
      have c15b0 : (a0_1 == 0) = false := beq_eq_false_iff_ne.mpr c15
      have c15b1 : (a0_1 != 0) = true := bne_iff_ne.mpr c15
      by_cases c17 : a0_1 ≥ (-10000)
      ·rw [if_pos c17] at H
       have c17b0 : decide ((-10000) ≤ a0_1) = true := decide_eq_true c17
       clear c17
       by_cases c18 : a0_1 ≤ 10000
       ·rw [if_pos c18] at H
        have c18b0 : decide (a0_1 ≤ 10000) = true := decide_eq_true c18
        clear c18
        obtain rfl := Option.some.inj H
        have hcz19_0 : wc.cell? ⟨gb136, 0, none⟩ = some (.int .i64 a0_0) := (blk_cell BK136.out 0).trans rfl
        have hcz19_1 : wc.cell? ⟨gb136, 1, none⟩ = some (.int .i64 a0_1) := (blk_cell BK136.out 1).trans rfl
        have hcz19_2 : wc.cell? ⟨gb136, 2, none⟩ = some (.string a0_2) := (blk_cell BK136.out 2).trans rfl
        have hfz19_0 := blk_frozen BK136.out 0
        have hfz19_1 := blk_frozen BK136.out 1
        have hfz19_2 := blk_frozen BK136.out 2
        go_wp2
        go_ret
        exact ⟨rsl_, bel_⟩
       ·rw [if_neg c18] at H
        have c18b0 : decide (a0_1 ≤ 10000) = false := decide_eq_false c18
        clear c18
        obtain rfl := Option.some.inj H
        have hcz20_0 : wc.cell? ⟨gb136, 0, none⟩ = some (.int .i64 a0_0) := (blk_cell BK136.out 0).trans rfl
        have hcz20_1 : wc.cell? ⟨gb136, 1, none⟩ = some (.int .i64 a0_1) := (blk_cell BK136.out 1).trans rfl
        have hcz20_2 : wc.cell? ⟨gb136, 2, none⟩ = some (.string a0_2) := (blk_cell BK136.out 2).trans rfl
        have hfz20_0 := blk_frozen BK136.out 0
        have hfz20_1 := blk_frozen BK136.out 1
        have hfz20_2 := blk_frozen BK136.out 2
        go_wp2
        go_ret
        exact ⟨rsl_, bel_⟩
      ·rw [if_neg c17] at H
       have c17b0 : decide ((-10000) ≤ a0_1) = false := decide_eq_false c17
       clear c17
       obtain rfl := Option.some.inj H
       have hcz21_0 : wc.cell? ⟨gb136, 0, none⟩ = some (.int .i64 a0_0) := (blk_cell BK136.out 0).trans rfl
       have hcz21_1 : wc.cell? ⟨gb136, 1, none⟩ = some (.int .i64 a0_1) := (blk_cell BK136.out 1).trans rfl
       have hcz21_2 : wc.cell? ⟨gb136, 2, none⟩ = some (.string a0_2) := (blk_cell BK136.out 2).trans rfl
       have hfz21_0 := blk_frozen BK136.out 0
       have hfz21_1 := blk_frozen BK136.out 1
       have hfz21_2 := blk_frozen BK136.out 2
       go_wp2
       go_ret
       exact ⟨rsl_, bel_⟩
    ·rw [if_neg c14] at H
     have c14b0 : (a0_0 == 2) = false := beq_eq_false_iff_ne.mpr c14
     have c14b1 : (a0_0 != 2) = true := bne_iff_ne.mpr c14
     by_cases c22 : a0_0 = 3
     ·rw [if_pos c22] at H
      have c22b0 : (a0_0 == 3) = true := beq_iff_eq.mpr c22
      have c22b1 : (a0_0 != 3) = false := bne_eq_false_iff_eq.mpr c22
      clear c22
      by_cases c23 : a0_1 = 0
      ·rw [if_pos c23] at H
       have c23b0 : (a0_1 == 0) = true := beq_iff_eq.mpr c23
       have c23b1 : (a0_1 != 0) = false := bne_eq_false_iff_eq.mpr c23
       clear c23
       by_cases c24 : a0_2.toList = ([] : List UInt8)
       ·rw [if_pos c24] at H
        have c24b0 : (a0_2.toList == ([] : List UInt8)) = true := beq_iff_eq.mpr c24
        have c24b1 : (a0_2.toList != ([] : List UInt8)) = false := bne_eq_false_iff_eq.mpr c24
        clear c24
        obtain rfl := Option.some.inj H
        have hcz25_0 : wc.cell? ⟨gb136, 0, none⟩ = some (.int .i64 a0_0) := (blk_cell BK136.out 0).trans rfl
        have hcz25_1 : wc.cell? ⟨gb136, 1, none⟩ = some (.int .i64 a0_1) := (blk_cell BK136.out 1).trans rfl
        have hcz25_2 : wc.cell? ⟨gb136, 2, none⟩ = some (.string a0_2) := (blk_cell BK136.out 2).trans rfl
        have hfz25_0 := blk_frozen BK136.out 0
        have hfz25_1 := blk_frozen BK136.out 1
        have hfz25_2 := blk_frozen BK136.out 2
        go_wp2
        go_ret
        exact ⟨rsl_, bel_⟩
       ·rw [if_neg c24] at H
        have c24b0 : (a0_2.toList == ([] : List UInt8)) = false := beq_eq_false_iff_ne.mpr c24
        have c24b1 : (a0_2.toList != ([] : List UInt8)) = true := bne_iff_ne.mpr c24
        obtain rfl := Option.some.inj H
        have hcz26_0 : wc.cell? ⟨gb136, 0, none⟩ = some (.int .i64 a0_0) := (blk_cell BK136.out 0).trans rfl
        have hcz26_1 : wc.cell? ⟨gb136, 1, none⟩ = some (.int .i64 a0_1) := (blk_cell BK136.out 1).trans rfl
        have hcz26_2 : wc.cell? ⟨gb136, 2, none⟩ = some (.string a0_2) := (blk_cell BK136.out 2).trans rfl
        have hfz26_0 := blk_frozen BK136.out 0
        have hfz26_1 := blk_frozen BK136.out 1
        have hfz26_2 := blk_frozen BK136.out 2
        go_wp2
        go_ret
        exact ⟨rsl_, bel_⟩
      ·rw [if_neg c23] at H
       have c23b0 : (a0_1 == 0) = false := beq_eq_false_iff_ne.mpr c23
       have c23b1 : (a0_1 != 0) = true := bne_iff_ne.mpr c23
       obtain rfl := Option.some.inj H
       have hcz27_0 : wc.cell? ⟨gb136, 0, none⟩ = some (.int .i64 a0_0) := (blk_cell BK136.out 0).trans rfl
       have hcz27_1 : wc.cell? ⟨gb136, 1, none⟩ = some (.int .i64 a0_1) := (blk_cell BK136.out 1).trans rfl
       have hcz27_2 : wc.cell? ⟨gb136, 2, none⟩ = some (.string a0_2) := (blk_cell BK136.out 2).trans rfl
       have hfz27_0 := blk_frozen BK136.out 0
       have hfz27_1 := blk_frozen BK136.out 1
       have hfz27_2 := blk_frozen BK136.out 2
       go_wp2
       go_ret
       exact ⟨rsl_, bel_⟩
     ·rw [if_neg c22] at H
      have c22b0 : (a0_0 == 3) = false := beq_eq_false_iff_ne.mpr c22
      have c22b1 : (a0_0 != 3) = true := bne_iff_ne.mpr c22
      by_cases c28 : a0_0 = 4
      ·rw [if_pos c28] at H
       have c28b0 : (a0_0 == 4) = true := beq_iff_eq.mpr c28
       have c28b1 : (a0_0 != 4) = false := bne_eq_false_iff_eq.mpr c28
       clear c28
       by_cases c29 : a0_1 ≥ 1
       ·rw [if_pos c29] at H
        have c29b0 : decide (1 ≤ a0_1) = true := decide_eq_true c29
        clear c29
        by_cases c30 : a0_1 ≤ 10000
        ·rw [if_pos c30] at H
         have c30b0 : decide (a0_1 ≤ 10000) = true := decide_eq_true c30
         clear c30
         obtain rfl := Option.some.inj H
         have hcz31_0 : wc.cell? ⟨gb136, 0, none⟩ = some (.int .i64 a0_0) := (blk_cell BK136.out 0).trans rfl
         have hcz31_1 : wc.cell? ⟨gb136, 1, none⟩ = some (.int .i64 a0_1) := (blk_cell BK136.out 1).trans rfl
         have hcz31_2 : wc.cell? ⟨gb136, 2, none⟩ = some (.string a0_2) := (blk_cell BK136.out 2).trans rfl
         have hfz31_0 := blk_frozen BK136.out 0
         have hfz31_1 := blk_frozen BK136.out 1
         have hfz31_2 := blk_frozen BK136.out 2
         go_wp2
         go_ret
         exact ⟨rsl_, bel_⟩
        ·rw [if_neg c30] at H
         have c30b0 : decide (a0_1 ≤ 10000) = false := decide_eq_false c30
         clear c30
         obtain rfl := Option.some.inj H
         have hcz32_0 : wc.cell? ⟨gb136, 0, none⟩ = some (.int .i64 a0_0) := (blk_cell BK136.out 0).trans rfl
         have hcz32_1 : wc.cell? ⟨gb136, 1, none⟩ = some (.int .i64 a0_1) := (blk_cell BK136.out 1).trans rfl
         have hcz32_2 : wc.cell? ⟨gb136, 2, none⟩ = some (.string a0_2) := (blk_cell BK136.out 2).trans rfl
         have hfz32_0 := blk_frozen BK136.out 0
         have hfz32_1 := blk_frozen BK136.out 1
         have hfz32_2 := blk_frozen BK136.out 2
         go_wp2
         go_ret
         exact ⟨rsl_, bel_⟩
       ·rw [if_neg c29] at H
        have c29b0 : decide (1 ≤ a0_1) = false := decide_eq_false c29
        clear c29
        obtain rfl := Option.some.inj H
        have hcz33_0 : wc.cell? ⟨gb136, 0, none⟩ = some (.int .i64 a0_0) := (blk_cell BK136.out 0).trans rfl
        have hcz33_1 : wc.cell? ⟨gb136, 1, none⟩ = some (.int .i64 a0_1) := (blk_cell BK136.out 1).trans rfl
        have hcz33_2 : wc.cell? ⟨gb136, 2, none⟩ = some (.string a0_2) := (blk_cell BK136.out 2).trans rfl
        have hfz33_0 := blk_frozen BK136.out 0
        have hfz33_1 := blk_frozen BK136.out 1
        have hfz33_2 := blk_frozen BK136.out 2
        go_wp2
        go_ret
        exact ⟨rsl_, bel_⟩
      ·rw [if_neg c28] at H
       have c28b0 : (a0_0 == 4) = false := beq_eq_false_iff_ne.mpr c28
       have c28b1 : (a0_0 != 4) = true := bne_iff_ne.mpr c28
       obtain rfl := Option.some.inj H
       have hcz34_0 : wc.cell? ⟨gb136, 0, none⟩ = some (.int .i64 a0_0) := (blk_cell BK136.out 0).trans rfl
       have hcz34_1 : wc.cell? ⟨gb136, 1, none⟩ = some (.int .i64 a0_1) := (blk_cell BK136.out 1).trans rfl
       have hcz34_2 : wc.cell? ⟨gb136, 2, none⟩ = some (.string a0_2) := (blk_cell BK136.out 2).trans rfl
       have hfz34_0 := blk_frozen BK136.out 0
       have hfz34_1 := blk_frozen BK136.out 1
       have hfz34_2 := blk_frozen BK136.out 2
       go_wp2
       go_ret
       exact ⟨rsl_, bel_⟩

end Go.Proofs.Ytaalmkkekbhpnaa.PRa
