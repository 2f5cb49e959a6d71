/- LineFoursCardSaid, part 10 of 13: contracts of the program's functions, the words that they use, and the plain laws on what they compute. Conditions: none beyond what the statements say. -/
import Derived.Test.YtofdhdafabmhmaaDoorKL40
import Derived.Test.YtofdhdafabmhmaaDoorKL41
import Derived.Test.YtofdhdafabmhmaaDoorKL43
import Derived.Test.YtofdhdafabmhmaaDoorKL46
import Derived.Test.YtofdhdafabmhmaaDoorKL48
import Derived.Test.YtofdhdafabmhmaaDoorProg
import Derived.Lib.LaidTab
import Derived.Lib.ItoaNum
import Derived.Lib.SmallJoins
import Derived.Lib.AppendIntMem
import Derived.Below
import Derived.WalkKit
import Derived.Test.YtofdhdafabmhmaaDoorKL45
import Derived.Test.YtofdhdafabmhmaaDoorKL47
import Derived.Laws.CopyOwn
import Derived.Shelf.Spec.SlicesInsert
set_option linter.unusedVariables false
set_option linter.unusedSimpArgs false
section
namespace Go.Proofs.YtofdhdafabmhmaaDoor.PLf4
open Go.RowKit Go.Proofs.YtofdhdafabmhmaaDoorW.PrintWords Go.Proofs.YtofdhdafabmhmaaDoorW.PrintLast Go.Proofs.YtofdhdafabmhmaaDoorW.PrintMore
attribute [local go_sem] max2_int min2_int max_two min_two max_three min_three max_four min_four
open Go.Proofs.YtofdhdafabmhmaaDoor.Opn Go.Proofs.YtofdhdafabmhmaaDoor.Giv
set_option maxRecDepth 100000

attribute [local go_sem high] eqA41
/-! ### parterrelaw07_lives: function 20 -/
def parterrelaw07_lives.l0 : Nat → List ByteArray → Int → Int → Int → Int → ByteArray → Option (Bool)
 | 0, _, _, _, _, _, _ => none
 | k + 1, x15, x16, x17, x251000, x251001, x251002 => if x17 < x16 then (if 0 ≤ x17 then (if x17 < (x15.length : Int) then ((parterrelaw07_words.f k (rdOf ByteArray.empty x15 x17)).bind fun t255 => ((line_Read.f k t255 0).bind fun bt258 => (if bt258.2.2.2.2 = 0 then (if (!(bt258.1 == x251000) || (!(bt258.2.1 == x251001) || (!(bt258.2.2.1.toList == x251002.toList)))) = true then (none) else (parterrelaw07_lives.l0 k x15 x16 (wrap64 (x17 + 1)) x251000 x251001 x251002)) else (none)))) else (none)) else (none)) else ((parterrelaw07_words.f k (⟨#[97]⟩ : ByteArray)).bind fun t264 => ((line_Pair.f k t264 0).bind fun bt267 => ((parterrelaw07_words.f k (⟨#[48]⟩ : ByteArray)).bind fun t277 => ((line_Read.f k t277 0).bind fun bt280 => (if bt267.2.2.2.2.2.2.2 = 0 then (if (bt267.1 == bt267.2.2.2.1 && (bt267.2.1 == bt267.2.2.2.2.1 && (bt267.2.2.1.toList == bt267.2.2.2.2.2.1.toList))) = true then (if bt267.2.2.1.toList = ([97] : List UInt8) then (some (bt280.2.2.2.2 == 50)) else (none)) else (none)) else (none))))))
def parterrelaw07_lives.f (k : Nat)  : Option (Bool) := (some (([(⟨#[115, 112, 97, 110, 32, 50, 32, 97]⟩ : ByteArray), (⟨#[97, 32, 50, 32, 115, 112, 97, 110]⟩ : ByteArray), (⟨#[115, 112, 97, 110, 32, 97, 32, 50]⟩ : ByteArray)] : List ByteArray) : List ByteArray)).bind fun y251 => (parterrelaw07_lives.l0 k y251 (y251.length : Int) 0 4 2 (⟨#[97]⟩ : ByteArray))
theorem parterrelaw07_lives.mono_l : ∀ k, (∀ y0 y1 y2 y3 y4 y5, LeO (parterrelaw07_lives.l0 k y0 y1 y2 y3 y4 y5) (parterrelaw07_lives.l0 (k + 1) y0 y1 y2 y3 y4 y5))
 | 0 => fun _ _ _ _ _ _ r h => by simp [parterrelaw07_lives.l0] at h
 | k + 1 => by
  have ih0 := parterrelaw07_lives.mono_l k; intro y0 y1 y2 y3 y4 y5; unfold parterrelaw07_lives.l0; repeat' first
  | (with_reducible exact ih0 _ _ _ _ _ _)
  | (with_reducible exact line_Pair.mono _ _ _)
  | (with_reducible exact line_Read.mono _ _ _)
  | (with_reducible exact parterrelaw07_words.mono _ _)
  | (with_reducible first | exact LeO.refl _ | exact LeO.none _ | refine LeO.ite ?_ ?_ | refine LeO.bind ?_ (fun _ => ?_))
theorem parterrelaw07_lives.mono : ∀ k, LeO (parterrelaw07_lives.f k ) (parterrelaw07_lives.f (k + 1) ) := by
 intro  k; have ih0 := parterrelaw07_lives.mono_l k; unfold parterrelaw07_lives.f; repeat' first
   | (with_reducible exact ih0 _ _ _ _ _ _)
   | (with_reducible exact line_Pair.mono _ _ _)
   | (with_reducible exact line_Read.mono _ _ _)
   | (with_reducible exact parterrelaw07_words.mono _ _)
   | (with_reducible first | exact LeO.refl _ | exact LeO.none _ | refine LeO.ite ?_ ?_ | refine LeO.bind ?_ (fun _ => ?_))
set_option maxHeartbeats 8000000 in
theorem parterrelaw07_lives.calls (k : Nat)  (r : Bool) (w : World) (h : parterrelaw07_lives.f k  = some r) :
  Calls Tryd.prog 20 #[] w fun e w' => e = .returned (.bool r) ∧ Below w.heap.size w w' := by
 have hu41 := Tryd.underlying41; have HB := am_ (Below.refl w.heap.size w); have H : ((some (([(⟨#[115, 112, 97, 110, 32, 50, 32, 97]⟩ : ByteArray), (⟨#[97, 32, 50, 32, 115, 112, 97, 110]⟩ : ByteArray), (⟨#[115, 112, 97, 110, 32, 97, 32, 50]⟩ : ByteArray)] : List ByteArray) : List ByteArray)).bind fun y251 => (parterrelaw07_lives.l0 k y251 (y251.length : Int) 0 4 2 (⟨#[97]⟩ : ByteArray))) = some r := h; clear h; obtain ⟨y251, hy251⟩ : ∃ y_ : List ByteArray, y_ = (([(⟨#[115, 112, 97, 110, 32, 50, 32, 97]⟩ : ByteArray), (⟨#[97, 32, 50, 32, 115, 112, 97, 110]⟩ : ByteArray), (⟨#[115, 112, 97, 110, 32, 97, 32, 50]⟩ : ByteArray)] : List ByteArray)) := ⟨_, rfl⟩
 replace H : (parterrelaw07_lives.l0 k y251 (y251.length : Int) 0 4 2 (⟨#[97]⟩ : ByteArray)) = some r := by first | (rw [hy251]; with_reducible exact H) | (have H2_ := (Option.bind_some _ _).symm.trans H; rw [hy251]; with_reducible exact H2_) | (have H2_ := (Option.bind_some _ _).symm.trans H; with_reducible exact H2_) | with_reducible exact H | (rw [hy251]; exact H) | exact H
 have Ny251 := am_ hy251; clear hy251; have H' := am_ H; clear H; go_enter Tryd.func20, Tryd.ntmps20
 go_wp2_with (first | ((with_reducible refine gate_dst (N := 1) rfl ?_); refine box_event ?hg (N := 1) ?hd (cs := #[.int .i64 0, .int .i64 0, .string (⟨#[]⟩ : ByteArray)]) (t := 41) ?hr ?_; (case hd => rfl); (case hg => rfl); (case hr => first | (go_simp; done) | (go_simp; rfl)); intro gb250 hg w1 hbox hb; have BK250 := am_ (hbox); have GW250 := am_ ((bsz_ hg : w.heap.size ≤ gb250)); have GE250 := am_ ((bsz_ hg : w.heap.size ≤ gb250)); replace HB := am_ (below_step bel_ hb); clear hb hbox hg; obtain ⟨hcz2_0, hcz2_1, hcz2_2⟩ := c3_ BK250; obtain ⟨hfz2_0, hfz2_1, hfz2_2⟩ := f3_ BK250) | ((with_reducible refine gate_dst (N := 15) rfl ?_); refine Kd.R_lit Kd.string _ 9 ?hg (N := 15) ?hd (xs := ([(⟨#[115, 112, 97, 110, 32, 50, 32, 97]⟩ : ByteArray), (⟨#[97, 32, 50, 32, 115, 112, 97, 110]⟩ : ByteArray), (⟨#[115, 112, 97, 110, 32, 97, 32, 50]⟩ : ByteArray)] : List ByteArray)) (inner := [.string (⟨#[115, 112, 97, 110, 32, 50, 32, 97]⟩ : ByteArray), .string (⟨#[97, 32, 50, 32, 115, 112, 97, 110]⟩ : ByteArray), .string (⟨#[115, 112, 97, 110, 32, 97, 32, 50]⟩ : ByteArray)]) (ok := fun _ => True) (okp := fun _ => True) ?hr ?hp (fun _ hk => hk) trivial (Below.refl _ _) (Nat.le_refl _) (by simp) ?_; (case hd => rfl); (case hg => rfl); (case hr => first | (go_simp; done) | (go_simp; rfl)); (case hp => exact (Reps.one (show Kd.M Kd.string _ _ _ (⟨#[115, 112, 97, 110, 32, 50, 32, 97]⟩ : ByteArray) [.string (⟨#[115, 112, 97, 110, 32, 50, 32, 97]⟩ : ByteArray)] from rfl) (Reps.one (show Kd.M Kd.string _ _ _ (⟨#[97, 32, 50, 32, 115, 112, 97, 110]⟩ : ByteArray) [.string (⟨#[97, 32, 50, 32, 115, 112, 97, 110]⟩ : ByteArray)] from rfl) (Reps.one (show Kd.M Kd.string _ _ _ (⟨#[115, 112, 97, 110, 32, 97, 32, 50]⟩ : ByteArray) [.string (⟨#[115, 112, 97, 110, 32, 97, 32, 50]⟩ : ByteArray)] from rfl) (Reps.none _ _))))); intro v252 w3 ho4 hb hg_ hnew_; clear hg_ hnew_; (first | rw [← Ny251.out] at ho4 | (simp only [Int.reduceToNat] at ho4; rw [← Ny251.out] at ho4)); have HO253 := am_ (Kd.R_lower ho4 (below_size bel_)); replace BK250 := am_ (blk_below (g := gb250) (o := .cells #[.int .i64 4, .int .i64 2, .string (⟨#[97]⟩ : ByteArray)] 41 (0, 0)) (bch_) hb); replace HB := am_ (below_step bel_ hb); clear hb ho4; obtain ⟨Ao5, co5, eo5⟩ := Kd.R_slice HO253.out; subst eo5))
 go_loopg [17] k (fun kq v17 w' => ∃ (x17_1 : Int), v17 = .int .i64 x17_1 ∧ Aside0 (parterrelaw07_lives.l0 kq y251 (y251.length : Int) x17_1 4 2 (⟨#[97]⟩ : ByteArray) = some r) ∧ Aside0 (kq ≤ k) ∧ Aside0 (Kd.R Kd.string 9 w' w.heap.size (fun _ => True) (.slice Ao5 y251.length co5) y251) ∧ Aside0 (w'.heap[gb250]? = some (.cells #[.int .i64 4, .int .i64 2, .string (⟨#[97]⟩ : ByteArray)] 41 (0, 0))) ∧ Aside0 (Below w.heap.size w w'))
 case atStart => exact ⟨(0), rfs_, H', ⟨Nat.le_refl _⟩, ⟨by (with_reducible repeat (first | apply Kd.R_alloc | apply Kd.R_drewN | apply Kd.R_drew)); exact HO253.out⟩, ⟨blk_⟩, ⟨bel_⟩⟩
 case round =>
  clear H'; try clear hcz2_0
  try clear hcz2_1
  try clear hcz2_2
  try clear hfz2_0
  try clear hfz2_1
  try clear hfz2_2
  obtain ⟨x17_1, rfl, HA, HK1, HO_15, BK250, HB⟩ := hrel
  cases gk with
  | zero => exact absurd HA.out (by simp [parterrelaw07_lives.l0])
  | succ k1 =>
   have H := HA.out; clear HA; simp only [parterrelaw07_lives.l0] at H; by_cases c6 : x17_1 < (y251.length : Int)
   ·rw [if_pos c6] at H; have c6b0 : decide (x17_1 < (y251.length : Int)) = true := dt_ c6; clear c6; by_cases c7 : 0 ≤ x17_1
    ·rw [if_pos c7] at H; have c7b0 : decide (0 ≤ x17_1) = true := dt_ c7; clear c7; by_cases c8 : x17_1 < (y251.length : Int)
     ·rw [if_pos c8] at H; have c8b0 : decide (x17_1 < (y251.length : Int)) = true := dt_ c8; clear c8; replace H := bs_ H; obtain ⟨t255, A90, H⟩ := H; try dsimp only at H
      have A9 := am_ A90; clear A90; replace H := bs_ H; obtain ⟨⟨t258, t259, t260, t261, t262⟩, A100, H⟩ := H; try dsimp only at H
      have A10 := am_ A100; clear A100; by_cases c11 : t262 = 0
      ·rw [if_pos c11] at H; have c11b0 : (t262 == 0) = true := beq_iff_eq.mpr c11; have c11b1 : (t262 != 0) = false := bne_eq_false_iff_eq.mpr c11; clear c11; by_cases c12 : (!(t258 == 4) || (!(t259 == 2) || (!(t260.toList == (⟨#[97]⟩ : ByteArray).toList)))) = true
       ·rw [if_pos c12] at H; exact absurd H (by simp)
       rw [if_neg c12] at H; have c12b0 : (!(t258 == 4) || (!(t259 == 2) || (!(t260.toList == ([97] : List UInt8))))) = false := by (try rw [show (⟨#[97]⟩ : ByteArray).toList = ([97] : List UInt8) by rw [ByteArray.toList_eq]] at c12); simpa using c12
       clear c12; have H' := am_ H; clear H; have p254 : 0 ≤ (x17_1 : Int) := od_ (by first | (with_reducible assumption) | assumption); have q254 : x17_1 < (y251.length : Int) := od_ (by first | (with_reducible assumption) | assumption); obtain ⟨ad254, e254, hx254_0⟩ := Kd.at_string (Kd.R_reads' HO_15.out).2.2 x17_1 p254 q254; cases e254
       replace p254 := eq_true p254; replace q254 := eq_true q254; go_wp2_with (first | ((with_reducible refine gate_callee (f := 21) rfl ?_); refine goesL_ (some 23) rfl rfl Tryd.func21 (by kernel_rfl) rfl #[.string (rdOf ByteArray.empty y251 x17_1)] rfl goa_ ?_; (with_reducible refine (parterrelaw07_words.calls k1 (rdOf ByteArray.empty y251 x17_1) t255 _ A9.out).mono ?_); rintro e w13 ⟨v256, rfl, ho0, hb⟩; refine ⟨_, rfl, ?_⟩; have HO257 := am_ (Kd.R_lower ho0 (below_size bel_)); replace HO_15 := am_ (Kd.R_below (row_ HO_15) hb); replace BK250 := blb_ BK250 hb; replace HB := am_ (below_step bel_ hb); (try clear hb); (try clear hb2); (try clear hk); (try clear hi); (try clear ho0); obtain ⟨Ao14, co14, eo14⟩ := Kd.R_slice HO257.out; subst eo14) | ((with_reducible refine gate_callee (f := 23) rfl ?_); refine goesL_ (some 24) rfl rfl Tryd.func23 (by kernel_rfl) rfl #[.slice Ao14 t255.length co14, .int .i64 0] rfl goa_ ?_; (with_reducible refine (line_Read.calls k1 _ _ t255 0 t258 t259 t260 t261 t262 _ ?side1 ?side2 A10.out).mono ?_); (case side1 => repeat (first | exact (Kd.R_reads' HO257.out).2.2 | (with_reducible refine Kd.C_alloc ?_ _) | (with_reducible refine Kd.C_drewN ?_ _) | (with_reducible refine Kd.C_drew ?_))); (case side2 => exact (Kd.R_reads' HO257.out).2.1); rintro e w15 ⟨rfl, hb⟩; refine ⟨_, rfl, ?_⟩; replace HO_15 := am_ (Kd.R_below (row_ HO_15) hb); replace HO257 := am_ (Kd.R_below (row_ HO257) hb); replace BK250 := blb_ BK250 hb; replace HB := am_ (below_step bel_ hb); clear hb) | ((with_reducible refine gate_dst (N := 4) rfl ?_); refine box_event ?hg (N := 4) ?hd (cs := #[.int .i64 0, .int .i64 0, .string (⟨#[]⟩ : ByteArray)]) (t := 41) ?hr ?_; (case hd => rfl); (case hg => rfl); (case hr => first | (go_simp; done) | (go_simp; rfl)); intro gb263 hg w16 hbox hb; have BK263 := am_ (hbox); have GW263 := am_ ((bsz_ hg : w.heap.size ≤ gb263)); have GE263 := am_ ((bsz_ hg : w.heap.size ≤ gb263)); have NB250_263 := am_ (bne_ BK250 hg : gb250 ≠ gb263); have NB263_250 := am_ (bng_ BK250 hg : gb263 ≠ gb250); replace HO_15 := am_ (Kd.R_below (row_ HO_15) hb); replace HO257 := am_ (Kd.R_below (row_ HO257) hb); replace BK250 := blb_ BK250 hb; replace HB := am_ (below_step bel_ hb); clear hb hbox hg; have hnb17 := NB263_250.out; have hnc17 := NB250_263.out; obtain ⟨hcz18_0, hcz18_1, hcz18_2⟩ := c3_ BK263; obtain ⟨hfz18_0, hfz18_1, hfz18_2⟩ := f3_ BK263; obtain ⟨hcz19_0, hcz19_1, hcz19_2⟩ := c3_ BK250; obtain ⟨hfz19_0, hfz19_1, hfz19_2⟩ := f3_ BK250))
       go_roundg k1
       case measure => have := HK1.out; omega
       case rel => exact ⟨(wrap64 (x17_1 + 1)), rfs_, H', ⟨by have := HK1.out; omega⟩, ⟨by (with_reducible repeat (first | apply Kd.R_alloc | apply Kd.R_drewN | apply Kd.R_drew)); exact Kd.R_mono (Kd.R_far (p := ⟨gb263, 2, none⟩) (Kd.R_far (p := ⟨gb263, 1, none⟩) (Kd.R_far (p := ⟨gb263, 0, none⟩) (Kd.R_types HO_15.out BK263.out (by decide)) (fun _ hk => hk.2) (.int .i64 t258)) (fun _ hk => hk.2) (.int .i64 t259)) (fun _ hk => hk.2) (.string t260)) (fun _ hk => trivial)⟩, ⟨bch_⟩, ⟨bel_⟩⟩
      rw [if_neg c11] at H; exact absurd H (by simp)
     rw [if_neg c8] at H; exact absurd H (by simp)
    rw [if_neg c7] at H; exact absurd H (by simp)
   rw [if_neg c6] at H; have c6b0 : decide (x17_1 < (y251.length : Int)) = false := df_ c6; clear c6; replace H := bs_ H; obtain ⟨t264, A200, H⟩ := H; try dsimp only at H
   have A20 := am_ A200; clear A200; replace H := bs_ H; obtain ⟨⟨t267, t268, t269, t270, t271, t272, t273, t274⟩, A210, H⟩ := H; try dsimp only at H
   have A21 := am_ A210; clear A210; replace H := bs_ H; obtain ⟨t277, A220, H⟩ := H; try dsimp only at H
   have A22 := am_ A220; clear A220; replace H := bs_ H; obtain ⟨⟨t280, t281, t282, t283, t284⟩, A230, H⟩ := H; try dsimp only at H
   have A23 := am_ A230; clear A230; by_cases c24 : t274 = 0
   ·rw [if_pos c24] at H; have c24b0 : (t274 == 0) = true := beq_iff_eq.mpr c24; have c24b1 : (t274 != 0) = false := bne_eq_false_iff_eq.mpr c24; clear c24; by_cases c25 : (t267 == t270 && (t268 == t271 && (t269.toList == t272.toList))) = true
    ·rw [if_pos c25] at H; have c25b0 : (t267 == t270 && (t268 == t271 && (t269.toList == t272.toList))) = true := c25; (try (have c25b1 : decide (t267 = t270 && (t268 == t271 && (t269.toList == t272.toList))) = true := by simpa using c25))
     (try (have c25b2 : (t267 == t270 && (t268 == t271 && (t269.toList == t272.toList))) = true := by simpa using c25))
     clear c25; by_cases c26 : t269.toList = ([97] : List UInt8)
     ·rw [if_pos c26] at H; have c26b0 : (t269.toList == ([97] : List UInt8)) = true := beq_iff_eq.mpr c26; have c26b1 : (t269.toList != ([97] : List UInt8)) = false := bne_eq_false_iff_eq.mpr c26; clear c26; obtain rfl := si_ H; go_wp2_with (first | ((with_reducible refine gate_callee (f := 21) rfl ?_); refine goesL_ (some 37) rfl rfl Tryd.func21 (by kernel_rfl) rfl #[.string (⟨#[97]⟩ : ByteArray)] rfl goa_ ?_; (with_reducible refine (parterrelaw07_words.calls k1 (⟨#[97]⟩ : ByteArray) t264 _ A20.out).mono ?_); rintro e w27 ⟨v265, rfl, ho0, hb⟩; refine ⟨_, rfl, ?_⟩; have HO266 := am_ (Kd.R_lower ho0 (below_size bel_)); replace HO_15 := am_ (Kd.R_below (row_ HO_15) hb); replace BK250 := blb_ BK250 hb; replace HB := am_ (below_step bel_ hb); (try clear hb); (try clear hb2); (try clear hk); (try clear hi); (try clear ho0); obtain ⟨Ao28, co28, eo28⟩ := Kd.R_slice HO266.out; subst eo28) | ((with_reducible refine gate_callee (f := 25) rfl ?_); refine goesL_ (some 38) rfl rfl Tryd.func25 (by kernel_rfl) rfl #[.slice Ao28 t264.length co28, .int .i64 0] rfl goa_ ?_; (with_reducible refine (line_Pair.calls k1 _ _ t264 0 t267 t268 t269 t270 t271 t272 t273 t274 _ ?side1 ?side2 A21.out).mono ?_); (case side1 => repeat (first | exact (Kd.R_reads' HO266.out).2.2 | (with_reducible refine Kd.C_alloc ?_ _) | (with_reducible refine Kd.C_drewN ?_ _) | (with_reducible refine Kd.C_drew ?_))); (case side2 => exact (Kd.R_reads' HO266.out).2.1); rintro e w29 ⟨rfl, hb⟩; refine ⟨_, rfl, ?_⟩; replace HO_15 := am_ (Kd.R_below (row_ HO_15) hb); replace HO266 := am_ (Kd.R_below (row_ HO266) hb); replace BK250 := blb_ BK250 hb; replace HB := am_ (below_step bel_ hb); clear hb) | ((with_reducible refine gate_dst (N := 7) rfl ?_); refine box_event ?hg (N := 7) ?hd (cs := #[.int .i64 0, .int .i64 0, .string (⟨#[]⟩ : ByteArray)]) (t := 41) ?hr ?_; (case hd => rfl); (case hg => rfl); (case hr => first | (go_simp; done) | (go_simp; rfl)); intro gb275 hg w30 hbox hb; have BK275 := am_ (hbox); have GW275 := am_ ((bsz_ hg : w.heap.size ≤ gb275)); have GE275 := am_ ((bsz_ hg : w.heap.size ≤ gb275)); have NB250_275 := am_ (bne_ BK250 hg : gb250 ≠ gb275); have NB275_250 := am_ (bng_ BK250 hg : gb275 ≠ gb250); replace HO_15 := am_ (Kd.R_below (row_ HO_15) hb); replace HO266 := am_ (Kd.R_below (row_ HO266) hb); replace BK250 := blb_ BK250 hb; replace HB := am_ (below_step bel_ hb); clear hb hbox hg) | ((with_reducible refine gate_dst (N := 8) rfl ?_); refine box_event ?hg (N := 8) ?hd (cs := #[.int .i64 0, .int .i64 0, .string (⟨#[]⟩ : ByteArray)]) (t := 41) ?hr ?_; (case hd => rfl); (case hg => rfl); (case hr => first | (go_simp; done) | (go_simp; rfl)); intro gb276 hg w31 hbox hb; have BK276 := am_ (hbox); have GW276 := am_ ((bsz_ hg : w.heap.size ≤ gb276)); have GE276 := am_ ((bsz_ hg : w.heap.size ≤ gb276)); have NB250_276 := am_ (bne_ BK250 hg : gb250 ≠ gb276); have NB276_250 := am_ (bng_ BK250 hg : gb276 ≠ gb250); have NB275_276 := am_ (bne_ BK275 hg : gb275 ≠ gb276); have NB276_275 := am_ (bng_ BK275 hg : gb276 ≠ gb275); replace HO_15 := am_ (Kd.R_below (row_ HO_15) hb); replace HO266 := am_ (Kd.R_below (row_ HO266) hb); replace BK250 := blb_ BK250 hb; replace BK275 := blb_ BK275 hb; replace HB := am_ (below_step bel_ hb); clear hb hbox hg; have hnb32 := NB275_250.out; have hnc32 := NB250_275.out; have hnb33 := NB275_276.out; have hnc33 := NB276_275.out; obtain ⟨hcz34_0, hcz34_1, hcz34_2⟩ := c3_ BK275; obtain ⟨hfz34_0, hfz34_1, hfz34_2⟩ := f3_ BK275; have hnb35 := NB276_250.out; have hnc35 := NB250_276.out; obtain ⟨hcz36_0, hcz36_1, hcz36_2⟩ := c3_ BK276; obtain ⟨hfz36_0, hfz36_1, hfz36_2⟩ := f3_ BK276) | ((with_reducible refine gate_callee (f := 21) rfl ?_); refine goesL_ (some 44) rfl rfl Tryd.func21 (by kernel_rfl) rfl #[.string (⟨#[48]⟩ : ByteArray)] rfl goa_ ?_; (with_reducible refine (parterrelaw07_words.calls k1 (⟨#[48]⟩ : ByteArray) t277 _ A22.out).mono ?_); rintro e w37 ⟨v278, rfl, ho0, hb⟩; refine ⟨_, rfl, ?_⟩; have HO279 := am_ (Kd.R_lower (Kd.R_new' ho0 (Kd.R_lt (by (with_reducible repeat (first | apply Kd.R_alloc | apply Kd.R_drewN | apply Kd.R_drew)); exact (Kd.R_mono (Kd.R_mono (Kd.R_far (p := ⟨gb276, 2, none⟩) (Kd.R_far (p := ⟨gb276, 1, none⟩) (Kd.R_far (p := ⟨gb276, 0, none⟩) (Kd.R_far (p := ⟨gb275, 2, none⟩) (Kd.R_far (p := ⟨gb275, 1, none⟩) (Kd.R_far (p := ⟨gb275, 0, none⟩) (Kd.R_types (Kd.R_types HO266.out BK275.out (by decide)) BK276.out (by decide)) (fun _ hk => hk.1.2) (.int .i64 t267)) (fun _ hk => hk.1.2) (.int .i64 t268)) (fun _ hk => hk.1.2) (.string t269)) (fun _ hk => hk.2) (.int .i64 t270)) (fun _ hk => hk.2) (.int .i64 t271)) (fun _ hk => hk.2) (.string t272)) (fun _ h_ => h_.1)) (fun _ h_ => h_.1))))) (below_size bel_)); replace HO_15 := am_ (Kd.R_below (by (with_reducible repeat (first | apply Kd.R_alloc | apply Kd.R_drewN | apply Kd.R_drew)); exact (Kd.R_mono (Kd.R_mono (Kd.R_far (p := ⟨gb276, 2, none⟩) (Kd.R_far (p := ⟨gb276, 1, none⟩) (Kd.R_far (p := ⟨gb276, 0, none⟩) (Kd.R_far (p := ⟨gb275, 2, none⟩) (Kd.R_far (p := ⟨gb275, 1, none⟩) (Kd.R_far (p := ⟨gb275, 0, none⟩) (Kd.R_types (Kd.R_types HO_15.out BK275.out (by decide)) BK276.out (by decide)) (fun _ hk => hk.1.2) (.int .i64 t267)) (fun _ hk => hk.1.2) (.int .i64 t268)) (fun _ hk => hk.1.2) (.string t269)) (fun _ hk => hk.2) (.int .i64 t270)) (fun _ hk => hk.2) (.int .i64 t271)) (fun _ hk => hk.2) (.string t272)) (fun _ h_ => h_.1)) (fun _ h_ => h_.1))) hb); replace HO266 := am_ (Kd.R_elder' (by (with_reducible repeat (first | apply Kd.R_alloc | apply Kd.R_drewN | apply Kd.R_drew)); exact (Kd.R_mono (Kd.R_mono (Kd.R_far (p := ⟨gb276, 2, none⟩) (Kd.R_far (p := ⟨gb276, 1, none⟩) (Kd.R_far (p := ⟨gb276, 0, none⟩) (Kd.R_far (p := ⟨gb275, 2, none⟩) (Kd.R_far (p := ⟨gb275, 1, none⟩) (Kd.R_far (p := ⟨gb275, 0, none⟩) (Kd.R_types (Kd.R_types HO266.out BK275.out (by decide)) BK276.out (by decide)) (fun _ hk => hk.1.2) (.int .i64 t267)) (fun _ hk => hk.1.2) (.int .i64 t268)) (fun _ hk => hk.1.2) (.string t269)) (fun _ hk => hk.2) (.int .i64 t270)) (fun _ hk => hk.2) (.int .i64 t271)) (fun _ hk => hk.2) (.string t272)) (fun _ h_ => h_.1)) (fun _ h_ => h_.1))) (Kd.R_base ho0) hb); replace BK250 := am_ (blk_below (g := gb250) (o := .cells #[.int .i64 4, .int .i64 2, .string (⟨#[97]⟩ : ByteArray)] 41 (0, 0)) (bch_) hb); replace BK275 := am_ (blk_below (g := gb275) (o := .cells #[.int .i64 t267, .int .i64 t268, .string t269] 41 (0, 0)) (bch_) hb); replace BK276 := am_ (blk_below (g := gb276) (o := .cells #[.int .i64 t270, .int .i64 t271, .string t272] 41 (0, 0)) (bch_) hb); replace HB := am_ (below_step bel_ hb); (try clear hb); (try clear hb2); (try clear hk); (try clear hi); (try clear ho0); obtain ⟨Ao38, co38, eo38⟩ := Kd.R_slice HO279.out; subst eo38) | ((with_reducible refine gate_callee (f := 23) rfl ?_); refine goesL_ (some 45) rfl rfl Tryd.func23 (by kernel_rfl) rfl #[.slice Ao38 t277.length co38, .int .i64 0] rfl goa_ ?_; (with_reducible refine (line_Read.calls k1 _ _ t277 0 t280 t281 t282 t283 t284 _ ?side1 ?side2 A23.out).mono ?_); (case side1 => repeat (first | exact (Kd.R_reads' HO279.out).2.2 | (with_reducible refine Kd.C_alloc ?_ _) | (with_reducible refine Kd.C_drewN ?_ _) | (with_reducible refine Kd.C_drew ?_))); (case side2 => exact (Kd.R_reads' HO279.out).2.1); rintro e w39 ⟨rfl, hb⟩; refine ⟨_, rfl, ?_⟩; replace HO_15 := am_ (Kd.R_below (row_ HO_15) hb); replace HO266 := am_ (Kd.R_below (row_ HO266) hb); replace HO279 := am_ (Kd.R_below (row_ HO279) hb); replace BK250 := blb_ BK250 hb; replace BK275 := blb_ BK275 hb; replace BK276 := blb_ BK276 hb; replace HB := am_ (below_step bel_ hb); clear hb) | ((with_reducible refine gate_dst (N := 11) rfl ?_); refine box_event ?hg (N := 11) ?hd (cs := #[.int .i64 0, .int .i64 0, .string (⟨#[]⟩ : ByteArray)]) (t := 41) ?hr ?_; (case hd => rfl); (case hg => rfl); (case hr => first | (go_simp; done) | (go_simp; rfl)); intro gb285 hg w40 hbox hb; have BK285 := am_ (hbox); have GW285 := am_ ((bsz_ hg : w.heap.size ≤ gb285)); have GE285 := am_ ((bsz_ hg : w.heap.size ≤ gb285)); have NB250_285 := am_ (bne_ BK250 hg : gb250 ≠ gb285); have NB285_250 := am_ (bng_ BK250 hg : gb285 ≠ gb250); have NB275_285 := am_ (bne_ BK275 hg : gb275 ≠ gb285); have NB285_275 := am_ (bng_ BK275 hg : gb285 ≠ gb275); have NB276_285 := am_ (bne_ BK276 hg : gb276 ≠ gb285); have NB285_276 := am_ (bng_ BK276 hg : gb285 ≠ gb276); replace HO_15 := am_ (Kd.R_below (row_ HO_15) hb); replace HO266 := am_ (Kd.R_below (row_ HO266) hb); replace HO279 := am_ (Kd.R_below (row_ HO279) hb); replace BK250 := blb_ BK250 hb; replace BK275 := blb_ BK275 hb; replace BK276 := blb_ BK276 hb; replace HB := am_ (below_step bel_ hb); clear hb hbox hg; have hnb41 := NB285_250.out; have hnc41 := NB250_285.out; have hnb42 := NB285_275.out; have hnc42 := NB275_285.out; have hnb43 := NB285_276.out; have hnc43 := NB276_285.out; obtain ⟨hcz44_0, hcz44_1, hcz44_2⟩ := c3_ BK285; obtain ⟨hfz44_0, hfz44_1, hfz44_2⟩ := f3_ BK285; obtain ⟨hcz45_0, hcz45_1, hcz45_2⟩ := c3_ BK275; obtain ⟨hfz45_0, hfz45_1, hfz45_2⟩ := f3_ BK275; obtain ⟨hcz46_0, hcz46_1, hcz46_2⟩ := c3_ BK276; obtain ⟨hfz46_0, hfz46_1, hfz46_2⟩ := f3_ BK276))
      go_ret
      exact ⟨rsl_, bel_⟩
     rw [if_neg c26] at H; exact absurd H (by simp)
    rw [if_neg c25] at H; exact absurd H (by simp)
   rw [if_neg c24] at H; exact absurd H (by simp)

/-! ### ident_control: function 60 -/
def ident_control.f (a0 : Int) : Option (Bool) := if a0 < 32 then (some true) else (some (a0 == 127))
set_option maxHeartbeats 8000000 in
theorem ident_control.calls (a0 : Int) (r : Bool) (w : World) (h : ident_control.f a0 = some r) :
  Calls Tryd.prog 60 #[.int .u8 a0] w fun e w' => e = .returned (.bool r) ∧ Drawn0 w w' := by
 have H : (if a0 < 32 then (some true) else (some (a0 == 127))) = some r := h; clear h; by_cases c2 : a0 < 32
 ·rw [if_pos c2] at H; have c2b0 : decide (a0 < 32) = true := dt_ c2; clear c2; obtain rfl := si_ H; go_enter Tryd.func60, Tryd.ntmps60
  go_wp2; go_ret
  exact ⟨by first | rfl | (simp; done) | (simp [*]; done), drs_⟩
 rw [if_neg c2] at H; have c2b0 : decide (a0 < 32) = false := df_ c2; clear c2; obtain rfl := si_ H; go_enter Tryd.func60, Tryd.ntmps60
 go_wp2; go_ret
 exact ⟨by first | rfl | (simp; done) | (simp [*]; done), drs_⟩

/-! ### ident_escaped: function 61 -/
def ident_escaped.f (a0 : Int) : Option (ByteArray) := if (a0 / 16) > 0 then (if 0 ≤ (a0 / 16) then (if (a0 / 16) ≤ (((a0 / 16) + 1) % 256) then (if (((a0 / 16) + 1) % 256) ≤ 16 then (if 1 + ((⟨#[48, 49, 50, 51, 52, 53, 54, 55, 56, 57, 97, 98, 99, 100, 101, 102]⟩ : ByteArray).extract ((a0 / 16) : Int).toNat ((((a0 / 16) + 1) % 256) : Int).toNat).size ≤ 9223372036854775807 then (if 0 ≤ (Go.bits .and .u8 a0 15) then (if (Go.bits .and .u8 a0 15) ≤ (((Go.bits .and .u8 a0 15) + 1) % 256) then (if (((Go.bits .and .u8 a0 15) + 1) % 256) ≤ 16 then (if ((⟨#[92]⟩ : ByteArray) ++ ((⟨#[48, 49, 50, 51, 52, 53, 54, 55, 56, 57, 97, 98, 99, 100, 101, 102]⟩ : ByteArray).extract ((a0 / 16) : Int).toNat ((((a0 / 16) + 1) % 256) : Int).toNat)).size + ((⟨#[48, 49, 50, 51, 52, 53, 54, 55, 56, 57, 97, 98, 99, 100, 101, 102]⟩ : ByteArray).extract ((Go.bits .and .u8 a0 15) : Int).toNat ((((Go.bits .and .u8 a0 15) + 1) % 256) : Int).toNat).size ≤ 9223372036854775807 then (if (((⟨#[92]⟩ : ByteArray) ++ ((⟨#[48, 49, 50, 51, 52, 53, 54, 55, 56, 57, 97, 98, 99, 100, 101, 102]⟩ : ByteArray).extract ((a0 / 16) : Int).toNat ((((a0 / 16) + 1) % 256) : Int).toNat)) ++ ((⟨#[48, 49, 50, 51, 52, 53, 54, 55, 56, 57, 97, 98, 99, 100, 101, 102]⟩ : ByteArray).extract ((Go.bits .and .u8 a0 15) : Int).toNat ((((Go.bits .and .u8 a0 15) + 1) % 256) : Int).toNat)).size + 1 ≤ 9223372036854775807 then (some ((((⟨#[92]⟩ : ByteArray) ++ ((⟨#[48, 49, 50, 51, 52, 53, 54, 55, 56, 57, 97, 98, 99, 100, 101, 102]⟩ : ByteArray).extract ((a0 / 16) : Int).toNat ((((a0 / 16) + 1) % 256) : Int).toNat)) ++ ((⟨#[48, 49, 50, 51, 52, 53, 54, 55, 56, 57, 97, 98, 99, 100, 101, 102]⟩ : ByteArray).extract ((Go.bits .and .u8 a0 15) : Int).toNat ((((Go.bits .and .u8 a0 15) + 1) % 256) : Int).toNat)) ++ (⟨#[32]⟩ : ByteArray))) else (none)) else (none)) else (none)) else (none)) else (none)) else (none)) else (none)) else (none)) else (none)) else (if 0 ≤ (Go.bits .and .u8 a0 15) then (if (Go.bits .and .u8 a0 15) ≤ (((Go.bits .and .u8 a0 15) + 1) % 256) then (if (((Go.bits .and .u8 a0 15) + 1) % 256) ≤ 16 then (if 1 + ((⟨#[48, 49, 50, 51, 52, 53, 54, 55, 56, 57, 97, 98, 99, 100, 101, 102]⟩ : ByteArray).extract ((Go.bits .and .u8 a0 15) : Int).toNat ((((Go.bits .and .u8 a0 15) + 1) % 256) : Int).toNat).size ≤ 9223372036854775807 then (if ((⟨#[92]⟩ : ByteArray) ++ ((⟨#[48, 49, 50, 51, 52, 53, 54, 55, 56, 57, 97, 98, 99, 100, 101, 102]⟩ : ByteArray).extract ((Go.bits .and .u8 a0 15) : Int).toNat ((((Go.bits .and .u8 a0 15) + 1) % 256) : Int).toNat)).size + 1 ≤ 9223372036854775807 then (some (((⟨#[92]⟩ : ByteArray) ++ ((⟨#[48, 49, 50, 51, 52, 53, 54, 55, 56, 57, 97, 98, 99, 100, 101, 102]⟩ : ByteArray).extract ((Go.bits .and .u8 a0 15) : Int).toNat ((((Go.bits .and .u8 a0 15) + 1) % 256) : Int).toNat)) ++ (⟨#[32]⟩ : ByteArray))) else (none)) else (none)) else (none)) else (none)) else (none))
set_option maxHeartbeats 8000000 in
theorem ident_escaped.calls (a0 : Int) (r : ByteArray) (w : World) (h : ident_escaped.f a0 = some r) :
  Calls Tryd.prog 61 #[.int .u8 a0] w fun e w' => e = .returned (.string r) ∧ Drawn0 w w' := by
 have H : (if (a0 / 16) > 0 then (if 0 ≤ (a0 / 16) then (if (a0 / 16) ≤ (((a0 / 16) + 1) % 256) then (if (((a0 / 16) + 1) % 256) ≤ 16 then (if 1 + ((⟨#[48, 49, 50, 51, 52, 53, 54, 55, 56, 57, 97, 98, 99, 100, 101, 102]⟩ : ByteArray).extract ((a0 / 16) : Int).toNat ((((a0 / 16) + 1) % 256) : Int).toNat).size ≤ 9223372036854775807 then (if 0 ≤ (Go.bits .and .u8 a0 15) then (if (Go.bits .and .u8 a0 15) ≤ (((Go.bits .and .u8 a0 15) + 1) % 256) then (if (((Go.bits .and .u8 a0 15) + 1) % 256) ≤ 16 then (if ((⟨#[92]⟩ : ByteArray) ++ ((⟨#[48, 49, 50, 51, 52, 53, 54, 55, 56, 57, 97, 98, 99, 100, 101, 102]⟩ : ByteArray).extract ((a0 / 16) : Int).toNat ((((a0 / 16) + 1) % 256) : Int).toNat)).size + ((⟨#[48, 49, 50, 51, 52, 53, 54, 55, 56, 57, 97, 98, 99, 100, 101, 102]⟩ : ByteArray).extract ((Go.bits .and .u8 a0 15) : Int).toNat ((((Go.bits .and .u8 a0 15) + 1) % 256) : Int).toNat).size ≤ 9223372036854775807 then (if (((⟨#[92]⟩ : ByteArray) ++ ((⟨#[48, 49, 50, 51, 52, 53, 54, 55, 56, 57, 97, 98, 99, 100, 101, 102]⟩ : ByteArray).extract ((a0 / 16) : Int).toNat ((((a0 / 16) + 1) % 256) : Int).toNat)) ++ ((⟨#[48, 49, 50, 51, 52, 53, 54, 55, 56, 57, 97, 98, 99, 100, 101, 102]⟩ : ByteArray).extract ((Go.bits .and .u8 a0 15) : Int).toNat ((((Go.bits .and .u8 a0 15) + 1) % 256) : Int).toNat)).size + 1 ≤ 9223372036854775807 then (some ((((⟨#[92]⟩ : ByteArray) ++ ((⟨#[48, 49, 50, 51, 52, 53, 54, 55, 56, 57, 97, 98, 99, 100, 101, 102]⟩ : ByteArray).extract ((a0 / 16) : Int).toNat ((((a0 / 16) + 1) % 256) : Int).toNat)) ++ ((⟨#[48, 49, 50, 51, 52, 53, 54, 55, 56, 57, 97, 98, 99, 100, 101, 102]⟩ : ByteArray).extract ((Go.bits .and .u8 a0 15) : Int).toNat ((((Go.bits .and .u8 a0 15) + 1) % 256) : Int).toNat)) ++ (⟨#[32]⟩ : ByteArray))) else (none)) else (none)) else (none)) else (none)) else (none)) else (none)) else (none)) else (none)) else (none)) else (if 0 ≤ (Go.bits .and .u8 a0 15) then (if (Go.bits .and .u8 a0 15) ≤ (((Go.bits .and .u8 a0 15) + 1) % 256) then (if (((Go.bits .and .u8 a0 15) + 1) % 256) ≤ 16 then (if 1 + ((⟨#[48, 49, 50, 51, 52, 53, 54, 55, 56, 57, 97, 98, 99, 100, 101, 102]⟩ : ByteArray).extract ((Go.bits .and .u8 a0 15) : Int).toNat ((((Go.bits .and .u8 a0 15) + 1) % 256) : Int).toNat).size ≤ 9223372036854775807 then (if ((⟨#[92]⟩ : ByteArray) ++ ((⟨#[48, 49, 50, 51, 52, 53, 54, 55, 56, 57, 97, 98, 99, 100, 101, 102]⟩ : ByteArray).extract ((Go.bits .and .u8 a0 15) : Int).toNat ((((Go.bits .and .u8 a0 15) + 1) % 256) : Int).toNat)).size + 1 ≤ 9223372036854775807 then (some (((⟨#[92]⟩ : ByteArray) ++ ((⟨#[48, 49, 50, 51, 52, 53, 54, 55, 56, 57, 97, 98, 99, 100, 101, 102]⟩ : ByteArray).extract ((Go.bits .and .u8 a0 15) : Int).toNat ((((Go.bits .and .u8 a0 15) + 1) % 256) : Int).toNat)) ++ (⟨#[32]⟩ : ByteArray))) else (none)) else (none)) else (none)) else (none)) else (none))) = some r := h; clear h; by_cases c2 : (a0 / 16) > 0
 ·rw [if_pos c2] at H; have c2b0 : decide (0 < (a0 / 16)) = true := dt_ c2; clear c2; obtain ⟨ji3, hji3⟩ : ∃ j_ : Int, (a0 / 16) = j_ := ⟨_, rfl⟩
  replace H : (if 0 ≤ (ji3) then (if (ji3) ≤ (((ji3) + 1) % 256) then (if (((ji3) + 1) % 256) ≤ 16 then (if 1 + ((⟨#[48, 49, 50, 51, 52, 53, 54, 55, 56, 57, 97, 98, 99, 100, 101, 102]⟩ : ByteArray).extract ((ji3) : Int).toNat ((((ji3) + 1) % 256) : Int).toNat).size ≤ 9223372036854775807 then (if 0 ≤ (Go.bits .and .u8 a0 15) then (if (Go.bits .and .u8 a0 15) ≤ (((Go.bits .and .u8 a0 15) + 1) % 256) then (if (((Go.bits .and .u8 a0 15) + 1) % 256) ≤ 16 then (if ((⟨#[92]⟩ : ByteArray) ++ ((⟨#[48, 49, 50, 51, 52, 53, 54, 55, 56, 57, 97, 98, 99, 100, 101, 102]⟩ : ByteArray).extract ((ji3) : Int).toNat ((((ji3) + 1) % 256) : Int).toNat)).size + ((⟨#[48, 49, 50, 51, 52, 53, 54, 55, 56, 57, 97, 98, 99, 100, 101, 102]⟩ : ByteArray).extract ((Go.bits .and .u8 a0 15) : Int).toNat ((((Go.bits .and .u8 a0 15) + 1) % 256) : Int).toNat).size ≤ 9223372036854775807 then (if (((⟨#[92]⟩ : ByteArray) ++ ((⟨#[48, 49, 50, 51, 52, 53, 54, 55, 56, 57, 97, 98, 99, 100, 101, 102]⟩ : ByteArray).extract ((ji3) : Int).toNat ((((ji3) + 1) % 256) : Int).toNat)) ++ ((⟨#[48, 49, 50, 51, 52, 53, 54, 55, 56, 57, 97, 98, 99, 100, 101, 102]⟩ : ByteArray).extract ((Go.bits .and .u8 a0 15) : Int).toNat ((((Go.bits .and .u8 a0 15) + 1) % 256) : Int).toNat)).size + 1 ≤ 9223372036854775807 then (some ((((⟨#[92]⟩ : ByteArray) ++ ((⟨#[48, 49, 50, 51, 52, 53, 54, 55, 56, 57, 97, 98, 99, 100, 101, 102]⟩ : ByteArray).extract ((ji3) : Int).toNat ((((ji3) + 1) % 256) : Int).toNat)) ++ ((⟨#[48, 49, 50, 51, 52, 53, 54, 55, 56, 57, 97, 98, 99, 100, 101, 102]⟩ : ByteArray).extract ((Go.bits .and .u8 a0 15) : Int).toNat ((((Go.bits .and .u8 a0 15) + 1) % 256) : Int).toNat)) ++ (⟨#[32]⟩ : ByteArray))) else (none)) else (none)) else (none)) else (none)) else (none)) else (none)) else (none)) else (none)) else (none)) = some r := by first | (rw [hji3] at H; exact H) | (simp only [hji3] at H ⊢; exact H)
  (try rw [hji3] at c2b0)
  by_cases c4 : 0 ≤ (ji3)
  ·rw [if_pos c4] at H; have c4b0 := eq_true c4; have c4b1 : decide (0 ≤ (ji3)) = true := dt_ c4; clear c4; by_cases c5 : (ji3) ≤ (((ji3) + 1) % 256)
   ·rw [if_pos c5] at H; have c5b0 := eq_true c5; have c5b1 : decide ((ji3) ≤ (((ji3) + 1) % 256)) = true := dt_ c5; by_cases c6 : (((ji3) + 1) % 256) ≤ 16
    ·rw [if_pos c6] at H; have c6b0 := eq_true c6; have c6b1 : decide ((((ji3) + 1) % 256) ≤ 16) = true := dt_ c6; by_cases c7 : 1 + ((⟨#[48, 49, 50, 51, 52, 53, 54, 55, 56, 57, 97, 98, 99, 100, 101, 102]⟩ : ByteArray).extract ((ji3) : Int).toNat ((((ji3) + 1) % 256) : Int).toNat).size ≤ 9223372036854775807
     ·rw [if_pos c7] at H; have c7b0 := eq_true c7; have c7b1 : decide (1 + ((⟨#[48, 49, 50, 51, 52, 53, 54, 55, 56, 57, 97, 98, 99, 100, 101, 102]⟩ : ByteArray).extract ((ji3) : Int).toNat ((((ji3) + 1) % 256) : Int).toNat).size ≤ 9223372036854775807) = true := dt_ c7; try have c7b2 : (9223372036854775807 < 1 + ((⟨#[48, 49, 50, 51, 52, 53, 54, 55, 56, 57, 97, 98, 99, 100, 101, 102]⟩ : ByteArray).extract ((ji3) : Int).toNat ((((ji3) + 1) % 256) : Int).toNat).size) = False := eq_false (Nat.not_lt.2 c7)
      by_cases c8 : 0 ≤ (Go.bits .and .u8 a0 15)
      ·rw [if_pos c8] at H; have c8b0 := eq_true c8; have c8b1 : decide (0 ≤ (Go.bits .and .u8 a0 15)) = true := dt_ c8; clear c8; by_cases c9 : (Go.bits .and .u8 a0 15) ≤ (((Go.bits .and .u8 a0 15) + 1) % 256)
       ·rw [if_pos c9] at H; have c9b0 := eq_true c9; have c9b1 : decide ((Go.bits .and .u8 a0 15) ≤ (((Go.bits .and .u8 a0 15) + 1) % 256)) = true := dt_ c9; by_cases c10 : (((Go.bits .and .u8 a0 15) + 1) % 256) ≤ 16
        ·rw [if_pos c10] at H; have c10b0 := eq_true c10; have c10b1 : decide ((((Go.bits .and .u8 a0 15) + 1) % 256) ≤ 16) = true := dt_ c10; by_cases c11 : ((⟨#[92]⟩ : ByteArray) ++ ((⟨#[48, 49, 50, 51, 52, 53, 54, 55, 56, 57, 97, 98, 99, 100, 101, 102]⟩ : ByteArray).extract ((ji3) : Int).toNat ((((ji3) + 1) % 256) : Int).toNat)).size + ((⟨#[48, 49, 50, 51, 52, 53, 54, 55, 56, 57, 97, 98, 99, 100, 101, 102]⟩ : ByteArray).extract ((Go.bits .and .u8 a0 15) : Int).toNat ((((Go.bits .and .u8 a0 15) + 1) % 256) : Int).toNat).size ≤ 9223372036854775807
         ·rw [if_pos c11] at H; have c11b0 := eq_true c11; have c11b1 : decide (((⟨#[92]⟩ : ByteArray) ++ ((⟨#[48, 49, 50, 51, 52, 53, 54, 55, 56, 57, 97, 98, 99, 100, 101, 102]⟩ : ByteArray).extract ((ji3) : Int).toNat ((((ji3) + 1) % 256) : Int).toNat)).size + ((⟨#[48, 49, 50, 51, 52, 53, 54, 55, 56, 57, 97, 98, 99, 100, 101, 102]⟩ : ByteArray).extract ((Go.bits .and .u8 a0 15) : Int).toNat ((((Go.bits .and .u8 a0 15) + 1) % 256) : Int).toNat).size ≤ 9223372036854775807) = true := dt_ c11; try have c11b2 : (9223372036854775807 < ((⟨#[92]⟩ : ByteArray) ++ ((⟨#[48, 49, 50, 51, 52, 53, 54, 55, 56, 57, 97, 98, 99, 100, 101, 102]⟩ : ByteArray).extract ((ji3) : Int).toNat ((((ji3) + 1) % 256) : Int).toNat)).size + ((⟨#[48, 49, 50, 51, 52, 53, 54, 55, 56, 57, 97, 98, 99, 100, 101, 102]⟩ : ByteArray).extract ((Go.bits .and .u8 a0 15) : Int).toNat ((((Go.bits .and .u8 a0 15) + 1) % 256) : Int).toNat).size) = False := eq_false (Nat.not_lt.2 c11)
          by_cases c12 : (((⟨#[92]⟩ : ByteArray) ++ ((⟨#[48, 49, 50, 51, 52, 53, 54, 55, 56, 57, 97, 98, 99, 100, 101, 102]⟩ : ByteArray).extract ((ji3) : Int).toNat ((((ji3) + 1) % 256) : Int).toNat)) ++ ((⟨#[48, 49, 50, 51, 52, 53, 54, 55, 56, 57, 97, 98, 99, 100, 101, 102]⟩ : ByteArray).extract ((Go.bits .and .u8 a0 15) : Int).toNat ((((Go.bits .and .u8 a0 15) + 1) % 256) : Int).toNat)).size + 1 ≤ 9223372036854775807
          ·rw [if_pos c12] at H; have c12b0 := eq_true c12; have c12b1 : decide ((((⟨#[92]⟩ : ByteArray) ++ ((⟨#[48, 49, 50, 51, 52, 53, 54, 55, 56, 57, 97, 98, 99, 100, 101, 102]⟩ : ByteArray).extract ((ji3) : Int).toNat ((((ji3) + 1) % 256) : Int).toNat)) ++ ((⟨#[48, 49, 50, 51, 52, 53, 54, 55, 56, 57, 97, 98, 99, 100, 101, 102]⟩ : ByteArray).extract ((Go.bits .and .u8 a0 15) : Int).toNat ((((Go.bits .and .u8 a0 15) + 1) % 256) : Int).toNat)).size + 1 ≤ 9223372036854775807) = true := dt_ c12; try have c12b2 : (9223372036854775807 < (((⟨#[92]⟩ : ByteArray) ++ ((⟨#[48, 49, 50, 51, 52, 53, 54, 55, 56, 57, 97, 98, 99, 100, 101, 102]⟩ : ByteArray).extract ((ji3) : Int).toNat ((((ji3) + 1) % 256) : Int).toNat)) ++ ((⟨#[48, 49, 50, 51, 52, 53, 54, 55, 56, 57, 97, 98, 99, 100, 101, 102]⟩ : ByteArray).extract ((Go.bits .and .u8 a0 15) : Int).toNat ((((Go.bits .and .u8 a0 15) + 1) % 256) : Int).toNat)).size + 1) = False := eq_false (Nat.not_lt.2 c12)
           obtain rfl := si_ H; go_enter Tryd.func61, Tryd.ntmps61
           go_wp2; go_ret
           exact ⟨by first | rfl | (simp; done) | (simp only [← hji3] <;> (first | rfl | simp)) | (simp [*]; done), drs_⟩
          rw [if_neg c12] at H; exact absurd H (by simp)
         rw [if_neg c11] at H; exact absurd H (by simp)
        rw [if_neg c10] at H; exact absurd H (by simp)
       rw [if_neg c9] at H; exact absurd H (by simp)
      rw [if_neg c8] at H; exact absurd H (by simp)
     rw [if_neg c7] at H; exact absurd H (by simp)
    rw [if_neg c6] at H; exact absurd H (by simp)
   rw [if_neg c5] at H; exact absurd H (by simp)
  rw [if_neg c4] at H; exact absurd H (by simp)
 rw [if_neg c2] at H; have c2b0 : decide (0 < (a0 / 16)) = false := df_ c2; clear c2; by_cases c13 : 0 ≤ (Go.bits .and .u8 a0 15)
 ·rw [if_pos c13] at H; have c13b0 := eq_true c13; have c13b1 : decide (0 ≤ (Go.bits .and .u8 a0 15)) = true := dt_ c13; clear c13; by_cases c14 : (Go.bits .and .u8 a0 15) ≤ (((Go.bits .and .u8 a0 15) + 1) % 256)
  ·rw [if_pos c14] at H; have c14b0 := eq_true c14; have c14b1 : decide ((Go.bits .and .u8 a0 15) ≤ (((Go.bits .and .u8 a0 15) + 1) % 256)) = true := dt_ c14; by_cases c15 : (((Go.bits .and .u8 a0 15) + 1) % 256) ≤ 16
   ·rw [if_pos c15] at H; have c15b0 := eq_true c15; have c15b1 : decide ((((Go.bits .and .u8 a0 15) + 1) % 256) ≤ 16) = true := dt_ c15; by_cases c16 : 1 + ((⟨#[48, 49, 50, 51, 52, 53, 54, 55, 56, 57, 97, 98, 99, 100, 101, 102]⟩ : ByteArray).extract ((Go.bits .and .u8 a0 15) : Int).toNat ((((Go.bits .and .u8 a0 15) + 1) % 256) : Int).toNat).size ≤ 9223372036854775807
    ·rw [if_pos c16] at H; have c16b0 := eq_true c16; have c16b1 : decide (1 + ((⟨#[48, 49, 50, 51, 52, 53, 54, 55, 56, 57, 97, 98, 99, 100, 101, 102]⟩ : ByteArray).extract ((Go.bits .and .u8 a0 15) : Int).toNat ((((Go.bits .and .u8 a0 15) + 1) % 256) : Int).toNat).size ≤ 9223372036854775807) = true := dt_ c16; try have c16b2 : (9223372036854775807 < 1 + ((⟨#[48, 49, 50, 51, 52, 53, 54, 55, 56, 57, 97, 98, 99, 100, 101, 102]⟩ : ByteArray).extract ((Go.bits .and .u8 a0 15) : Int).toNat ((((Go.bits .and .u8 a0 15) + 1) % 256) : Int).toNat).size) = False := eq_false (Nat.not_lt.2 c16)
     by_cases c17 : ((⟨#[92]⟩ : ByteArray) ++ ((⟨#[48, 49, 50, 51, 52, 53, 54, 55, 56, 57, 97, 98, 99, 100, 101, 102]⟩ : ByteArray).extract ((Go.bits .and .u8 a0 15) : Int).toNat ((((Go.bits .and .u8 a0 15) + 1) % 256) : Int).toNat)).size + 1 ≤ 9223372036854775807
     ·rw [if_pos c17] at H; have c17b0 := eq_true c17; have c17b1 : decide (((⟨#[92]⟩ : ByteArray) ++ ((⟨#[48, 49, 50, 51, 52, 53, 54, 55, 56, 57, 97, 98, 99, 100, 101, 102]⟩ : ByteArray).extract ((Go.bits .and .u8 a0 15) : Int).toNat ((((Go.bits .and .u8 a0 15) + 1) % 256) : Int).toNat)).size + 1 ≤ 9223372036854775807) = true := dt_ c17; try have c17b2 : (9223372036854775807 < ((⟨#[92]⟩ : ByteArray) ++ ((⟨#[48, 49, 50, 51, 52, 53, 54, 55, 56, 57, 97, 98, 99, 100, 101, 102]⟩ : ByteArray).extract ((Go.bits .and .u8 a0 15) : Int).toNat ((((Go.bits .and .u8 a0 15) + 1) % 256) : Int).toNat)).size + 1) = False := eq_false (Nat.not_lt.2 c17)
      obtain rfl := si_ H; go_enter Tryd.func61, Tryd.ntmps61
      go_wp2; go_ret
      exact ⟨by first | rfl | (simp; done) | (simp [*]; done), drs_⟩
     rw [if_neg c17] at H; exact absurd H (by simp)
    rw [if_neg c16] at H; exact absurd H (by simp)
   rw [if_neg c15] at H; exact absurd H (by simp)
  rw [if_neg c14] at H; exact absurd H (by simp)
 rw [if_neg c13] at H; exact absurd H (by simp)

/-! ### ident_digit: function 74 -/
def ident_digit.f (a0 : Int) : Option (Bool) := if a0 ≥ 48 then (some (decide (a0 ≤ 57))) else (some false)
set_option maxHeartbeats 8000000 in
theorem ident_digit.calls (a0 : Int) (r : Bool) (w : World) (h : ident_digit.f a0 = some r) :
  Calls Tryd.prog 74 #[.int .u8 a0] w fun e w' => e = .returned (.bool r) ∧ Drawn0 w w' := by
 have H : (if a0 ≥ 48 then (some (decide (a0 ≤ 57))) else (some false)) = some r := h; clear h; by_cases c2 : a0 ≥ 48
 ·rw [if_pos c2] at H; have c2b0 : decide (48 ≤ a0) = true := dt_ c2; clear c2; obtain rfl := si_ H; go_enter Tryd.func74, Tryd.ntmps74
  go_wp2; go_ret
  exact ⟨by first | rfl | (simp; done) | (simp [*]; done), drs_⟩
 rw [if_neg c2] at H; have c2b0 : decide (48 ≤ a0) = false := df_ c2; clear c2; obtain rfl := si_ H; go_enter Tryd.func74, Tryd.ntmps74
 go_wp2; go_ret
 exact ⟨by first | rfl | (simp; done) | (simp [*]; done), drs_⟩

end Go.Proofs.YtofdhdafabmhmaaDoor.PLf4
end
section
/- The table of the powers of ten, carried along a run. Conditions: none. -/
namespace Go.Proofs.YtofdhdafabmhmaaDoor.Tbl
open Go.RowKit
def Tab0 (w : World) : Prop := Lib.TabIs Tryd.prog w "internal/strconv.uint64pow10" .u64 Lib.pow10Tab
theorem glob : ∃ g, Tryd.prog.globalNamed "internal/strconv.uint64pow10" = some g := ⟨3, by kernel_rfl⟩
theorem tab0_stays {w W : World} (h : Tab0 w) (hb : Below w.heap.size w W) : Tab0 W := by
  obtain ⟨g, hg⟩ := glob; exact Joins.tab_stays hg h hb (Nat.le_refl _)
end Go.Proofs.YtofdhdafabmhmaaDoor.Tbl
end
section
namespace Go.Proofs.YtofdhdafabmhmaaDoor.PLf4
open Go.RowKit Go.Proofs.YtofdhdafabmhmaaDoorW.PrintWords Go.Proofs.YtofdhdafabmhmaaDoorW.PrintLast Go.Proofs.YtofdhdafabmhmaaDoorW.PrintMore
attribute [local go_sem] max2_int min2_int max_two min_two max_three min_three max_four min_four
open Go.Proofs.YtofdhdafabmhmaaDoor.Opn Go.Proofs.YtofdhdafabmhmaaDoor.Giv
set_option maxRecDepth 100000

/-! ### ident_Write: function 42 -/
def ident_Write.sub (s : ByteArray) (i : Int) : ByteArray := s.extract i.toNat (wrap64 (i + 1)).toNat
def ident_Write.first (s : ByteArray) (i : Int) : Bool := decide (i = 0) || (decide (i = 1) && decide (bt s 0 = 45))
def ident_Write.one (s : ByteArray) (i : Int) : Option ByteArray :=
 (token_Letter.f (bt s i)).bind fun t1 => (ident_digit.f (bt s i)).bind fun t2 => (ident_control.f (bt s i)).bind fun t3 => (ident_escaped.f (bt s i)).bind fun t4 =>
  some (if t1 = true then ident_Write.sub s i else if bt s i = 45 ∧ 1 < (s.size : Int) then ident_Write.sub s i else if t2 = true ∧ ident_Write.first s i = false then ident_Write.sub s i
   else if t2 = true then t4 else if t3 = true then t4 else (⟨#[92]⟩ : ByteArray) ++ ident_Write.sub s i)

/-- The pieces of the first bytes, one behind the other. -/
def ident_Write.cat (s : ByteArray) : Nat → Option (List UInt8)
 | 0 => some []
 | n + 1 => (ident_Write.cat s n).bind fun l => (ident_Write.one s n).bind fun r => if r.size ≤ 8 then some (l ++ r.data.toList) else none
theorem ident_Write.cat_lt (s : ByteArray) : ∀ {n : Nat} {l : List UInt8}, ident_Write.cat s n = some l → ∀ {i : Nat}, i < n → ∃ c r, ident_Write.cat s i = some c ∧ ident_Write.one s i = some r ∧ r.size ≤ 8 ∧ ident_Write.cat s (i + 1) = some (c ++ r.data.toList)
 | 0, _, _, _, h => absurd h (Nat.not_lt_zero _)
 | n + 1, l, h, i, hi => by
  simp only [ident_Write.cat] at h; obtain ⟨c, h1, h⟩ := Option.bind_eq_some_iff.1 h; obtain ⟨r, h2, h⟩ := Option.bind_eq_some_iff.1 h; by_cases h3 : r.size ≤ 8
  ·rw [if_pos h3] at h; rcases Nat.lt_or_ge i n with h4 | h4
   ·exact ident_Write.cat_lt s h1 h4
   obtain rfl : i = n := by omega
   refine ⟨c, r, h1, h2, h3, ?_⟩
   show (ident_Write.cat s i).bind _ = _
   rw [h1]; show (ident_Write.one s i).bind _ = _
   rw [h2]; exact if_pos h3
  rw [if_neg h3] at h; cases h
theorem ident_Write.cat_len (s : ByteArray) : ∀ (n : Nat) (l : List UInt8), ident_Write.cat s n = some l → l.length ≤ n * 8
 | 0, l, h => by
  obtain rfl := si_ h; simp
 | n + 1, l, h => by
  simp only [ident_Write.cat] at h; obtain ⟨c, h1, h⟩ := Option.bind_eq_some_iff.1 h; obtain ⟨r, h2, h⟩ := Option.bind_eq_some_iff.1 h; by_cases h3 : r.size ≤ 8
  ·rw [if_pos h3] at h; obtain rfl := si_ h; have := ident_Write.cat_len s n c h1
   have h5 : r.data.toList.length = r.size := by simp
   rw [List.length_append, h5]; omega
  rw [if_neg h3] at h; cases h

set_option maxHeartbeats 8000000 in
theorem ident_Write.one_calls (cb : Nat) (i : Int) (s : ByteArray) (r : ByteArray) (w : World) (hi0 : 0 ≤ i) (hi1 : i < (s.size : Int)) (hc : w.cell? ⟨cb, 0, none⟩ = some (.string s)) (hs : s.size ≤ 1000000) (h : ident_Write.one s i = some r) :
  Calls Tryd.prog 73 #[.int .i64 i, .int .u8 (bt s i), .pointer (some ⟨cb, 0, none⟩)] w fun e w' => e = .returned (.string r) ∧ Drawn0 w w' := by
 obtain ⟨t1, ht1, h⟩ := Option.bind_eq_some_iff.1 h; obtain ⟨t2, ht2, h⟩ := Option.bind_eq_some_iff.1 h; obtain ⟨t3, ht3, h⟩ := Option.bind_eq_some_iff.1 h; obtain ⟨t4, ht4, h⟩ := Option.bind_eq_some_iff.1 h; replace h := si_ h; have T1 := am_ ht1; have T2 := am_ ht2; have T3 := am_ ht3; have T4 := am_ ht4; clear ht1 ht2 ht3 ht4; have hx0 : ∀ h : 0 < s.size, ((s[0].toNat : Nat) : Int) = bt s 0 := fun h => bt_at s 0 h
 have k0 : ((0 : Int) < (s.size : Int)) = True := eq_true (by omega); have k0b : (0 < s.size) = True := eq_true (by omega); have hw1 : wrap64 (i + 1) = i + 1 := by unfold wrap64; omega
 have q0 : (0 ≤ i) = True := eq_true hi0; have q2 : (i ≤ wrap64 (i + 1)) = True := eq_true (by omega); have q3 : (wrap64 (i + 1) ≤ (s.size : Int)) = True := eq_true (by omega); have q2b : decide (i ≤ wrap64 (i + 1)) = true := dt_ (by omega); have q3b : decide (wrap64 (i + 1) ≤ (s.size : Int)) = true := dt_ (by omega); have q0b : decide (0 ≤ i) = true := dt_ hi0; have qs : (1 + (s.extract i.toNat (wrap64 (i + 1)).toNat).size ≤ 9223372036854775807) = True := eq_true (by rw [ByteArray.size_extract]; omega); have qs2 : (9223372036854775807 < 1 + (s.extract i.toNat (wrap64 (i + 1)).toNat).size) = False := eq_false (by rw [ByteArray.size_extract]; omega); have qs3 : (9223372036854775807 < 1 + ((wrap64 (i + 1)).toNat - i.toNat)) = False := eq_false (by rw [hw1]; omega); have hF : (∃ b0 b1 b2 : Bool, (i == 0) = b0 ∧ (i == 1) = b1 ∧ (bt s 0 == 45) = b2 ∧ ident_Write.first s i = (b0 || (b1 && b2))) := ⟨_, _, _, rfl, rfl, rfl, rfl⟩
 obtain ⟨b0, b1, b2, p0, p1, p2, hF⟩ := hF; have hD : (∃ b3 b4 : Bool, (bt s i == 45) = b3 ∧ decide (1 < (s.size : Int)) = b4 ∧ decide (1 < s.size) = b4) := ⟨_, _, rfl, rfl, by simp only [decide_eq_decide]; omega⟩
 obtain ⟨b3, b4, p3, p4, p4b⟩ := hD; have h' : r = (if t1 = true then ident_Write.sub s i else if b3 = true ∧ b4 = true then ident_Write.sub s i else if t2 = true ∧ (b0 || (b1 && b2)) = false then ident_Write.sub s i
   else if t2 = true then t4 else if t3 = true then t4 else (⟨#[92]⟩ : ByteArray) ++ ident_Write.sub s i) := by
  rw [← h, hF]; simp only [← p3, ← p4, beq_iff_eq, decide_eq_true_eq]
 unfold ident_Write.sub at h'; clear h hF hw1 hi0 hi1 hs; have HP : (b0 = true) ∨ (b0 = false ∧ b1 = true) ∨ (b0 = false ∧ b1 = false) := by cases b0 <;> cases b1 <;> simp
 rcases HP with rfl | ⟨rfl, rfl⟩ | ⟨rfl, rfl⟩
 all_goals
  cases t1 with
  | true =>
   simp only [if_pos] at h'; subst h'; go_enter Tryd.func73, Tryd.ntmps73
   go_wp2_with (first
    | (go_at_call 54; refine (token_Letter.calls _ _ _ T1.out).mono ?_; rintro e w5 ⟨rfl, ⟨nd, rfl⟩⟩))
   go_ret
   exact ⟨rfl, drs_⟩
  | false =>
   simp only [Bool.false_eq_true, if_false] at h'; have HQ : (b3 = true ∧ b4 = true) ∨ (b3 = true ∧ b4 = false) ∨ b3 = false := by cases b3 <;> cases b4 <;> simp
   rcases HQ with ⟨rfl, rfl⟩ | HQ
   ·simp only [and_self, if_true] at h'; subst h'; go_enter Tryd.func73, Tryd.ntmps73
    go_wp2_with (first
     | (go_at_call 54; refine (token_Letter.calls _ _ _ T1.out).mono ?_; rintro e w5 ⟨rfl, ⟨nd, rfl⟩⟩))
    go_ret
    exact ⟨rfl, drs_⟩
   rw [if_neg (by rcases HQ with ⟨_, h⟩ | h <;> simp [h])] at h'; rcases HQ with ⟨rfl, rfl⟩ | rfl
   all_goals
    cases t2 with
    | true =>
     cases b2
     all_goals
      simp at h'
      subst h'; go_enter Tryd.func73, Tryd.ntmps73
      go_wp2_with (first
       | (go_at_call 54; refine (token_Letter.calls _ _ _ T1.out).mono ?_; rintro e w5 ⟨rfl, ⟨nd, rfl⟩⟩)
       | (go_at_call 74; refine (ident_digit.calls _ _ _ T2.out).mono ?_; rintro e w5 ⟨rfl, ⟨nd2, rfl⟩⟩)
       | (go_at_call 61; refine (ident_escaped.calls _ _ _ T4.out).mono ?_; rintro e w5 ⟨rfl, ⟨nd4, rfl⟩⟩))
      go_ret
      exact ⟨rfl, drs_⟩
    | false =>
     cases t3 <;> cases b2
     all_goals
      simp at h'
      subst h'; go_enter Tryd.func73, Tryd.ntmps73
      go_wp2_with (first
       | (go_at_call 54; refine (token_Letter.calls _ _ _ T1.out).mono ?_; rintro e w5 ⟨rfl, ⟨nd, rfl⟩⟩)
       | (go_at_call 74; refine (ident_digit.calls _ _ _ T2.out).mono ?_; rintro e w5 ⟨rfl, ⟨nd2, rfl⟩⟩)
       | (go_at_call 60; refine (ident_control.calls _ _ _ T3.out).mono ?_; rintro e w5 ⟨rfl, ⟨nd3, rfl⟩⟩)
       | (go_at_call 61; refine (ident_escaped.calls _ _ _ T4.out).mono ?_; rintro e w5 ⟨rfl, ⟨nd4, rfl⟩⟩))
      go_ret
      exact ⟨rfl, drs_⟩

theorem ident_Write.isB {T e : TypeId} {B b : Nat} {l : List Value} {w : World} (h : Lib.IsBuilder T e B b l w) (n : Nat) : Lib.IsBuilder T e B b l (w.drewN n) := h
theorem ident_Write.belowN {B : Nat} {a w : World} (h : Below B a w) (n : Nat) : Below B a (w.drewN n) := h.trans ⟨rfl, rfl, rfl, Nat.le_refl _, fun _ _ => rfl⟩
theorem ident_Write.built {T e : TypeId} {B b : Nat} {l : List UInt8} {r : ByteArray} {w : World} (h : Lib.BuilderAt T e B b (.pointer (some ⟨b, 0, none⟩)) (Lib.byteCells l ++ Lib.strCells r) w) : Lib.IsBuilder T e B b (Lib.byteCells (l ++ r.data.toList)) w := Or.inr (by
 unfold Lib.byteCells Lib.strCells at *; rw [List.map_append]; exact h)
theorem ident_Write.short {c : List UInt8} {r s : ByteArray} {i : Nat} (h1 : c.length ≤ i * 8) (h2 : r.size ≤ 8) (h3 : s.size ≤ 1000000) (h4 : (i : Int) < (s.size : Int)) : (Lib.byteCells c).length + r.size ≤ 140737488355328 := by
 unfold Lib.byteCells; rw [List.length_map]; omega
theorem ident_Write.next {i : Nat} {s : ByteArray} (h1 : (i : Int) < (s.size : Int)) (hs : s.size ≤ 1000000) : wrap64 ((i : Int) + 1) = ((i + 1 : Nat) : Int) := by
 unfold wrap64; omega
theorem ident_Write.less {i : Nat} {s : ByteArray} (h1 : (i : Int) < (s.size : Int)) (hw : wrap64 ((i : Int) + 1) = ((i + 1 : Nat) : Int)) : s.size - (intOf (.int .i64 (wrap64 ((i : Int) + 1)))).toNat < s.size - (intOf (.int .i64 (i : Int))).toNat := by
 rw [hw]; show s.size - (((i + 1 : Nat) : Int)).toNat < s.size - ((i : Int)).toNat
 rw [Int.toNat_natCast, Int.toNat_natCast]; clear hw; omega
theorem ident_Write.small {i : Int} {s : ByteArray} (h0 : 0 ≤ i) (h1 : i < (s.size : Int)) (hs : s.size ≤ 1000000) : wrap64 (i + 1) = i + 1 := by unfold wrap64; omega

set_option maxHeartbeats 4000000 in
theorem ident_Write.each_calls (cb : Nat) (s : ByteArray) (l : List UInt8) (w : World) (hc : w.cell? ⟨cb, 0, none⟩ = some (.string s)) (hs : s.size ≤ 1000000) (hl : ident_Write.cat s s.size = some l) :
  Calls Tryd.prog 58 #[.string s, .func (.func 73) #[] #[.pointer (some ⟨cb, 0, none⟩)]] w fun e w' => e = .returned (.string ⟨l.toArray⟩) ∧ Below w.heap.size w w' := by
 have hcl := World.block_lt_of_cell? w _ hc; have HC := am_ hc; have HL := am_ hl; have HS := am_ hs; clear hc hl hs; go_enter Tryd.func58, Tryd.ntmps58
 go_wp2; go_loopw [9] (fun v9 wr => ∃ (i : Nat) (c : List UInt8), i ≤ s.size ∧ v9 = .int .i64 i ∧ Aside0 (ident_Write.cat s i = some c) ∧ Aside0 (Lib.IsBuilder 100 5 w.heap.size w.heap.size (Lib.byteCells c) wr) ∧ Aside0 (Below w.heap.size w wr))
  (fun v9 _ => s.size - (intOf v9).toNat)
 case atStart => exact ⟨0, [], Nat.zero_le _, rfl, ⟨rfl⟩, ⟨Lib.fresh_isBuilder _ _ w⟩, ⟨(Below.refl _ _).alloc (Nat.le_refl _) _⟩⟩
 case round =>
  obtain ⟨i, c, hi, rfl, HK, HB, HW⟩ := hrel; by_cases hlt : i < s.size
  ·have q0 : (0 ≤ (i : Int)) = True := eq_true (by omega); have q1 : ((i : Int) < (s.size : Int)) = True := eq_true (by omega); have q2 : decide ((i : Int) < (s.size : Int)) = true := dt_ (by omega); have q3 : decide (i < s.size) = true := dt_ hlt; have hx : ∀ h : i < s.size, ((s[i].toNat : Nat) : Int) = bt s i := fun h => bt_at s i h
   have q4 : (i < s.size) = True := eq_true hlt; obtain ⟨c', r, h1, h2, h3, h4⟩ := ident_Write.cat_lt s HL.out hlt; obtain rfl := si_ (HK.out.symm.trans h1); have HN := am_ h4; have HO := am_ h2; have HR := am_ h3; have hcw := (HW.out.cell hcl).trans HC.out; have HCW := am_ hcw; have HLEN := am_ (ident_Write.short (ident_Write.cat_len s i c HK.out) HR.out HS.out (q1.mpr trivial)); have H0 := am_ (q0.mpr trivial); have H1 := am_ (q1.mpr trivial); have HSW := am_ HW.out.size; clear h1 h2 h3 h4 hcw hlt hi; go_wp2_with (first
    | (go_at_call 73; refine (ident_Write.one_calls cb i s r _ H0.out H1.out HCW.out HS.out HO.out).mono ?_; rintro e w5 ⟨rfl, ⟨nd, rfl⟩⟩)
    | (go_at_call 63; refine (Giv.writeString_calls w.heap.size w.heap.size (Lib.byteCells c) r _ ?g1 HLEN.out ?g2).mono ?_; (case g1 => repeat (first | (with_reducible exact HB.out) | (with_reducible apply ident_Write.isB))); (case g2 => exact HSW.out); rintro e w6 ⟨rfl, hb6, hbe6⟩; have HW6 := am_ (Below.trans (by repeat (first | (with_reducible exact HW.out) | (with_reducible apply ident_Write.belowN))) hbe6); clear hbe6))
   have HWR := am_ (ident_Write.next H1.out HS.out); go_roundw
   case rel => exact ⟨i + 1, c ++ r.data.toList, by have := H1.out; omega, by rw [HWR.out], HN, ⟨ident_Write.built hb6⟩, HW6⟩
   case measure => exact ident_Write.less H1.out HWR.out
  have hie : i = s.size := by omega
  subst hie; have q2 : decide ((s.size : Int) < (s.size : Int)) = false := df_ (by omega); have q3 : decide (s.size < s.size) = false := df_ (by omega); obtain rfl := si_ (HK.out.symm.trans HL.out); have HSW := am_ HW.out.size; clear hlt; go_wp2_with (first
   | (go_at_call 64; refine (Tryd.Builder_String_any w.heap.size w.heap.size c _ HB.out HSW.out).mono ?_; rintro e w6 ⟨rfl, hb6⟩))
  go_ret
  exact ⟨rfl, HW.out.trans hb6⟩

theorem ident_Write.boxed (w : World) (s : ByteArray) (T : TypeId) : (w.alloc (.cells #[.string s] T)).cell? ⟨w.heap.size, 0, none⟩ = some (.string s) := by
 simp
theorem ident_Write.cellN {w : World} {p : Addr} {v : Value} (h : w.cell? p = some v) (n : Nat) : (w.drewN n).cell? p = some v := h
theorem ident_Write.belowA (w : World) (o : Obj) : Below w.heap.size w (w.alloc o) := below_alloc (Below.refl _ _) _

def ident_Write.f (s : ByteArray) : Option ByteArray := (ident_Name.f s).bind fun t => if t = true then (if s.size ≤ 1000000 then (ident_Write.cat s s.size).bind fun l => some ⟨l.toArray⟩ else none) else some ⟨#[]⟩
set_option maxHeartbeats 2000000 in
theorem ident_Write.calls (s : ByteArray) (r : ByteArray) (w : World) (h : ident_Write.f s = some r) :
  Calls Tryd.prog 42 #[.string s] w fun e w' => e = .returned (.string r) ∧ Below w.heap.size w w' := by
 obtain ⟨t, ht, h⟩ := Option.bind_eq_some_iff.1 h; have HT := am_ ht; clear ht
 cases t with
 | false =>
  obtain rfl := si_ h; go_enter Tryd.func42, Tryd.ntmps42
  go_wp2_with (first
   | (go_at_call 72; refine (ident_Name.calls _ _ _ HT.out).mono ?_; rintro e w5 ⟨rfl, ⟨nd, rfl⟩⟩))
  go_ret
  exact ⟨rfl, by repeat (first | (with_reducible exact ident_Write.belowA _ _) | (with_reducible apply ident_Write.belowN))⟩
 | true =>
  rw [if_pos rfl] at h; by_cases hs : s.size ≤ 1000000
  ·rw [if_pos hs] at h; obtain ⟨l, hl, h⟩ := Option.bind_eq_some_iff.1 h; obtain rfl := si_ h; have HL := am_ hl; have HS := am_ hs; clear hl hs h; go_enter Tryd.func42, Tryd.ntmps42
   go_wp2_with (first
    | (go_at_call 72; refine (ident_Name.calls _ _ _ HT.out).mono ?_; rintro e w5 ⟨rfl, ⟨nd, rfl⟩⟩)
    | (go_at_call 58; refine (ident_Write.each_calls w.heap.size s l _ ?g1 HS.out HL.out).mono ?_; (case g1 => repeat (first | (with_reducible exact ident_Write.boxed _ _ _) | (with_reducible apply ident_Write.cellN))); rintro e w6 ⟨rfl, hb6⟩; have HW6 := am_ (below_step (by repeat (first | (with_reducible exact ident_Write.belowA _ _) | (with_reducible apply ident_Write.belowN))) hb6); clear hb6))
   go_ret
   exact ⟨rfl, HW6.out⟩
  rw [if_neg hs] at h; cases h

/-! ### strconv_Itoa: function 43 -/
def strconv_Itoa.f (a0 : Int) : Option (ByteArray) := if -9223372036854775808 ≤ a0 then (if a0 ≤ 9223372036854775807 then some ⟨(Lib.itoa a0).toArray⟩ else none) else none
theorem strconv_Itoa.calls (a0 : Int) (r : ByteArray) (w : World) (h : strconv_Itoa.f a0 = some r) (htab : Tbl.Tab0 w) :
  Calls Tryd.prog 43 #[.int .i64 a0] w fun e w' => e = .returned (.string r) ∧ Below w.heap.size w w' := by
 unfold strconv_Itoa.f at h; by_cases h0 : -9223372036854775808 ≤ a0
 ·rw [if_pos h0] at h; by_cases h1 : a0 ≤ 9223372036854775807
  ·rw [if_pos h1] at h; refine (Tryd.strconv_Itoa a0 h0 h1 w htab).mono ?_
   rintro e w' ⟨rfl, k, os, rfl⟩
   exact ⟨by rw [si_ h], Lib.below_grow _ _ (Nat.le_refl _) k os⟩
  rw [if_neg h1] at h; cases h
 rw [if_neg h0] at h; cases h


/-! ### line_Text: function 22 -/
mutual
def line_Text.j0 : Nat → ByteArray → Bool → Int → Int → ByteArray → Option (ByteArray)
 | 0, _, _, _, _, _ => none
 | k + 1, x3, x26, x287000, x287001, x287002 => if x26 = true then (if x3.toList = ([] : List UInt8) then ((strconv_Itoa.f x287001).bind fun t289 => (if t289.size + x3.size ≤ 9223372036854775807 then (line_Text.j1 k (t289 ++ x3) x287000 x287001 x287002) else (none))) else (if 1 + x3.size ≤ 9223372036854775807 then ((strconv_Itoa.f x287001).bind fun t290 => (if t290.size + ((⟨#[32]⟩ : ByteArray) ++ x3).size ≤ 9223372036854775807 then (line_Text.j1 k (t290 ++ ((⟨#[32]⟩ : ByteArray) ++ x3)) x287000 x287001 x287002) else (none))) else (none))) else (line_Text.j1 k x3 x287000 x287001 x287002)
def line_Text.j1 : Nat → ByteArray → Int → Int → ByteArray → Option (ByteArray)
 | 0, _, _, _, _ => none
 | k + 1, x3, x287000, x287001, x287002 => if x287000 = 1 then (some (⟨#[97, 117, 116, 111]⟩ : ByteArray)) else (if x287000 = 4 then (if 5 + x3.size ≤ 9223372036854775807 then (some ((⟨#[115, 112, 97, 110, 32]⟩ : ByteArray) ++ x3)) else (none)) else (some x3))
end
def line_Text.f (k : Nat) (a0_0 : Int) (a0_1 : Int) (a0_2 : ByteArray) : Option (ByteArray) := (line_Good.f k a0_0 a0_1 a0_2).bind fun t287 => (if t287 = true then ((ident_Write.f a0_2).bind fun t288 => (if a0_0 = 2 then (line_Text.j0 k t288 true a0_0 a0_1 a0_2) else (if a0_0 = 4 then (if a0_1 > 1 then (line_Text.j0 k t288 true a0_0 a0_1 a0_2) else (line_Text.j0 k t288 (t288.toList == ([] : List UInt8)) a0_0 a0_1 a0_2)) else (line_Text.j0 k t288 false a0_0 a0_1 a0_2)))) else (some (⟨#[]⟩ : ByteArray)))
theorem line_Text.mono_l : ∀ k, (∀ y0 y1 y2 y3 y4, LeO (line_Text.j0 k y0 y1 y2 y3 y4) (line_Text.j0 (k + 1) y0 y1 y2 y3 y4)) ∧ (∀ y0 y1 y2 y3, LeO (line_Text.j1 k y0 y1 y2 y3) (line_Text.j1 (k + 1) y0 y1 y2 y3))
 | 0 => ⟨fun _ _ _ _ _ r h => by simp [line_Text.j0] at h, fun _ _ _ _ r h => by simp [line_Text.j1] at h⟩
 | k + 1 => by
  obtain ⟨ih0, ih1⟩ := line_Text.mono_l k; refine ⟨?_, ?_⟩
  ·intro y0 y1 y2 y3 y4; unfold line_Text.j0; repeat' first
   | (with_reducible exact ih0 _ _ _ _ _)
   | (with_reducible exact ih1 _ _ _ _)
   | (with_reducible exact line_Good.mono _ _ _ _)
   | (with_reducible first | exact LeO.refl _ | exact LeO.none _ | refine LeO.ite ?_ ?_ | refine LeO.bind ?_ (fun _ => ?_))
  intro y0 y1 y2 y3; unfold line_Text.j1; repeat' first
  | (with_reducible exact ih0 _ _ _ _ _)
  | (with_reducible exact ih1 _ _ _ _)
  | (with_reducible exact line_Good.mono _ _ _ _)
  | (with_reducible first | exact LeO.refl _ | exact LeO.none _ | refine LeO.ite ?_ ?_ | refine LeO.bind ?_ (fun _ => ?_))
theorem line_Text.mono : ∀ a0 a1 a2 k, LeO (line_Text.f k a0 a1 a2) (line_Text.f (k + 1) a0 a1 a2) := by
 intro a0 a1 a2 k; obtain ⟨ih0, ih1⟩ := line_Text.mono_l k; unfold line_Text.f; repeat' first
   | (with_reducible exact ih0 _ _ _ _ _)
   | (with_reducible exact ih1 _ _ _ _)
   | (with_reducible exact line_Good.mono _ _ _ _)
   | (with_reducible first | exact LeO.refl _ | exact LeO.none _ | refine LeO.ite ?_ ?_ | refine LeO.bind ?_ (fun _ => ?_))
set_option maxHeartbeats 8000000 in
theorem line_Text.calls (k : Nat) (a0_0 : Int) (a0_1 : Int) (a0_2 : ByteArray) (r : ByteArray) (w : World) (h : line_Text.f k a0_0 a0_1 a0_2 = some r) (htab : Tbl.Tab0 w) :
  Calls Tryd.prog 22 #[.agg #[.int .i64 a0_0, .int .i64 a0_1, .string a0_2]] w fun e w' => e = .returned (.string r) ∧ Below w.heap.size w w' := by
 have HTB := am_ htab; clear htab; have hu41 := Tryd.underlying41; have HB := am_ (Below.refl w.heap.size w); have H : ((line_Good.f k a0_0 a0_1 a0_2).bind fun t287 => (if t287 = true then ((ident_Write.f a0_2).bind fun t288 => (if a0_0 = 2 then (line_Text.j0 k t288 true a0_0 a0_1 a0_2) else (if a0_0 = 4 then (if a0_1 > 1 then (line_Text.j0 k t288 true a0_0 a0_1 a0_2) else (line_Text.j0 k t288 (t288.toList == ([] : List UInt8)) a0_0 a0_1 a0_2)) else (line_Text.j0 k t288 false a0_0 a0_1 a0_2)))) else (some (⟨#[]⟩ : ByteArray)))) = some r := h; clear h; replace H := bs_ H; obtain ⟨t287, A20, H⟩ := H; try dsimp only at H
 have A2 := am_ A20; clear A20; by_cases c3 : t287 = true
 ·subst c3; rw [if_pos rfl] at H; replace H := bs_ H; obtain ⟨t288, A40, H⟩ := H; try dsimp only at H
  have A4 := am_ A40; clear A40; have HC5 := am_ H; clear H; go_enter Tryd.func22, Tryd.ntmps22
  go_upto_region 4 with (first | ((with_reducible refine gate_dst (N := 1) rfl ?_); refine box_event ?hg (N := 1) ?hd (cs := #[.int .i64 a0_0, .int .i64 a0_1, .string a0_2]) (t := 41) ?hr ?_; (case hd => rfl); (case hg => rfl); (case hr => first | (go_simp; done) | (go_simp; rfl)); intro gb286 hg w6 hbox hb; have BK286 := am_ (hbox); have GW286 := am_ ((bsz_ hg : w.heap.size ≤ gb286)); have GE286 := am_ ((bsz_ hg : w.heap.size ≤ gb286)); replace HB := am_ (below_step bel_ hb); clear hb hbox hg; obtain ⟨hcz7_0, hcz7_1, hcz7_2⟩ := c3_ BK286; obtain ⟨hfz7_0, hfz7_1, hfz7_2⟩ := f3_ BK286) | ((with_reducible refine gate_callee (f := 19) rfl ?_); refine goesL_ (some 5) rfl rfl Tryd.func19 (by kernel_rfl) rfl #[.agg #[.int .i64 a0_0, .int .i64 a0_1, .string a0_2]] rfl goa_ ?_; (with_reducible refine (line_Good.calls k a0_0 a0_1 a0_2 true _ A2.out).mono ?_); rintro e w8 ⟨rfl, hb⟩; refine ⟨_, rfl, ?_⟩; replace BK286 := blb_ BK286 hb; replace HB := am_ (below_step bel_ hb); clear hb; obtain ⟨hcz9_0, hcz9_1, hcz9_2⟩ := c3_ BK286; obtain ⟨hfz9_0, hfz9_1, hfz9_2⟩ := f3_ BK286) | ((with_reducible refine gate_callee (f := 42) rfl ?_); refine goesL_ (some 9) rfl rfl Tryd.func42 (by kernel_rfl) rfl #[.string a0_2] rfl goa_ ?_; (with_reducible refine (ident_Write.calls a0_2 t288 _ A4.out).mono ?_); rintro e w10 ⟨rfl, hb⟩; refine ⟨_, rfl, ?_⟩; replace BK286 := blb_ BK286 hb; replace HB := am_ (below_step bel_ hb); clear hb))
  (try simp only [Act.put, List.setIfInBounds_toArray, List.set_cons_zero, List.set_cons_succ])
  go_cut [26] (fun v26 wc => ∃ (kq : Nat) (x26_4 : Bool), v26 = .bool x26_4 ∧ Aside0 (line_Text.j0 kq t288 x26_4 a0_0 a0_1 a0_2 = some r) ∧ Aside0 (kq ≤ k) ∧ Aside0 (wc.heap[gb286]? = some (.cells #[.int .i64 a0_0, .int .i64 a0_1, .string a0_2] 41 (0, 0))) ∧ Aside0 (Below w.heap.size w wc))
  case first =>
   have H := HC5.out; clear HC5; by_cases c11 : a0_0 = 2
   ·rw [if_pos c11] at H; have c11b0 : (a0_0 == 2) = true := beq_iff_eq.mpr c11; have c11b1 : (a0_0 != 2) = false := bne_eq_false_iff_eq.mpr c11; clear c11; (first | rw [c11b0] | (simp only [i64_w, i32_w]; rw [c11b0]) | skip)
    have H' := am_ H; clear H; obtain ⟨hcz12_0, hcz12_1, hcz12_2⟩ := c3_ BK286; obtain ⟨hfz12_0, hfz12_1, hfz12_2⟩ := f3_ BK286; go_wp2; go_meet
    case rel => exact ⟨_, (true), rfs_, (by first | exact H' | (subst_vars; exact H')), ⟨ole_⟩, ⟨blk_⟩, ⟨bel_⟩⟩
   rw [if_neg c11] at H; have c11b0 : (a0_0 == 2) = false := beq_eq_false_iff_ne.mpr c11; have c11b1 : (a0_0 != 2) = true := bne_iff_ne.mpr c11; (first | rw [c11b0] | (simp only [i64_w, i32_w]; rw [c11b0]) | skip)
   by_cases c13 : a0_0 = 4
   ·rw [if_pos c13] at H; have c13b0 : (a0_0 == 4) = true := beq_iff_eq.mpr c13; have c13b1 : (a0_0 != 4) = false := bne_eq_false_iff_eq.mpr c13; clear c13; by_cases c14 : a0_1 > 1
    ·rw [if_pos c14] at H; have c14b0 : decide (1 < a0_1) = true := dt_ c14; clear c14; have H' := am_ H; clear H; obtain ⟨hcz15_0, hcz15_1, hcz15_2⟩ := c3_ BK286; obtain ⟨hfz15_0, hfz15_1, hfz15_2⟩ := f3_ BK286; go_wp2; go_meet
     case rel => exact ⟨_, (true), rfs_, (by first | exact H' | (subst_vars; exact H')), ⟨ole_⟩, ⟨blk_⟩, ⟨bel_⟩⟩
    rw [if_neg c14] at H; have c14b0 : decide (1 < a0_1) = false := df_ c14; clear c14; have H' := am_ H; clear H; obtain ⟨hcz16_0, hcz16_1, hcz16_2⟩ := c3_ BK286; obtain ⟨hfz16_0, hfz16_1, hfz16_2⟩ := f3_ BK286; go_wp2; go_meet
    case rel => exact ⟨_, ((t288.toList == ([] : List UInt8))), rfs_, (by first | exact H' | (subst_vars; exact H')), ⟨ole_⟩, ⟨blk_⟩, ⟨bel_⟩⟩
   rw [if_neg c13] at H; have c13b0 : (a0_0 == 4) = false := beq_eq_false_iff_ne.mpr c13; have c13b1 : (a0_0 != 4) = true := bne_iff_ne.mpr c13; have H' := am_ H; clear H; obtain ⟨hcz17_0, hcz17_1, hcz17_2⟩ := c3_ BK286; obtain ⟨hfz17_0, hfz17_1, hfz17_2⟩ := f3_ BK286; go_wp2; go_meet
   case rel => exact ⟨_, (false), rfs_, (by first | exact H' | (subst_vars; exact H')), ⟨ole_⟩, ⟨blk_⟩, ⟨bel_⟩⟩
  clear HC5; try clear c3
  try clear hcz7_0
  try clear hcz7_1
  try clear hcz7_2
  try clear hcz9_0
  try clear hcz9_1
  try clear hcz9_2
  try clear hfz7_0
  try clear hfz7_1
  try clear hfz7_2
  try clear hfz9_0
  try clear hfz9_1
  try clear hfz9_2
  obtain ⟨kq, x26_4, rfl, HA, HJ4, BK286, HB⟩ := hcut
  cases kq with
  | zero => exact absurd HA.out (by simp [line_Text.j0])
  | succ kj4 =>
   have H := HA.out; clear HA; simp only [line_Text.j0] at H; have HC18 := am_ H; clear H; go_upto_if 26 with (fail)
   go_cut [3] (fun v3 wc => ∃ (kq : Nat) (x3_17 : ByteArray), v3 = .string x3_17 ∧ Aside0 (line_Text.j1 kq x3_17 a0_0 a0_1 a0_2 = some r) ∧ Aside0 (kq ≤ kj4) ∧ Aside0 (wc.heap[gb286]? = some (.cells #[.int .i64 a0_0, .int .i64 a0_1, .string a0_2] 41 (0, 0))) ∧ Aside0 (Below w.heap.size w wc))
   case first =>
    have H := HC18.out; clear HC18; by_cases c19 : x26_4 = true
    ·subst c19; rw [if_pos rfl] at H; by_cases c20 : t288.toList = ([] : List UInt8)
     ·rw [if_pos c20] at H; have c20b0 : (t288.toList == ([] : List UInt8)) = true := beq_iff_eq.mpr c20; have c20b1 : (t288.toList != ([] : List UInt8)) = false := bne_eq_false_iff_eq.mpr c20; clear c20; (first | rw [c20b0] | (simp only [i64_w, i32_w]; rw [c20b0]) | skip)
      replace H := bs_ H; obtain ⟨t289, A210, H⟩ := H; try dsimp only at H
      have A21 := am_ A210; clear A210; by_cases c22 : t289.size + t288.size ≤ 9223372036854775807
      ·rw [if_pos c22] at H; have c22b0 := eq_true c22; have c22b1 : decide (t289.size + t288.size ≤ 9223372036854775807) = true := dt_ c22; try have c22b2 : (9223372036854775807 < t289.size + t288.size) = False := eq_false (Nat.not_lt.2 c22)
       have H' := am_ H; clear H; obtain ⟨hcz23_0, hcz23_1, hcz23_2⟩ := c3_ BK286; obtain ⟨hfz23_0, hfz23_1, hfz23_2⟩ := f3_ BK286; go_wp2_with (first | ((with_reducible refine gate_callee (f := 43) rfl ?_); refine goesL_ (some 33) rfl rfl Tryd.func43 (by kernel_rfl) rfl #[.int .i64 a0_1] rfl goa_ ?_; (with_reducible refine (strconv_Itoa.calls a0_1 t289 _ A21.out (Tbl.tab0_stays HTB.out bel_)).mono ?_); rintro e w24 ⟨rfl, hb⟩; refine ⟨_, rfl, ?_⟩; replace BK286 := blb_ BK286 hb; replace HB := am_ (below_step bel_ hb); clear hb))
       go_meet
       case rel => exact ⟨_, (t289 ++ t288), rfs_, H', ⟨by have := HJ4.out; first | omega | exact Nat.le_refl _⟩, ⟨blk_⟩, ⟨bel_⟩⟩
      rw [if_neg c22] at H; exact absurd H (by simp)
     rw [if_neg c20] at H; have c20b0 : (t288.toList == ([] : List UInt8)) = false := beq_eq_false_iff_ne.mpr c20; have c20b1 : (t288.toList != ([] : List UInt8)) = true := bne_iff_ne.mpr c20; (first | rw [c20b0] | (simp only [i64_w, i32_w]; rw [c20b0]) | skip)
     by_cases c25 : 1 + t288.size ≤ 9223372036854775807
     ·rw [if_pos c25] at H; have c25b0 := eq_true c25; have c25b1 : decide (1 + t288.size ≤ 9223372036854775807) = true := dt_ c25; try have c25b2 : (9223372036854775807 < 1 + t288.size) = False := eq_false (Nat.not_lt.2 c25)
      replace H := bs_ H; obtain ⟨t290, A260, H⟩ := H; try dsimp only at H
      have A26 := am_ A260; clear A260; by_cases c27 : t290.size + ((⟨#[32]⟩ : ByteArray) ++ t288).size ≤ 9223372036854775807
      ·rw [if_pos c27] at H; have c27b0 := eq_true c27; have c27b1 : decide (t290.size + ((⟨#[32]⟩ : ByteArray) ++ t288).size ≤ 9223372036854775807) = true := dt_ c27; try have c27b2 : (9223372036854775807 < t290.size + ((⟨#[32]⟩ : ByteArray) ++ t288).size) = False := eq_false (Nat.not_lt.2 c27)
       try have c27b3 : (9223372036854775807 < t290.size + (1 + t288.size)) = False := eq_false (Nat.not_lt.2 (by have h_ := c27; simp only [ByteArray.size_append] at h_; exact h_))
       have H' := am_ H; clear H; obtain ⟨hcz28_0, hcz28_1, hcz28_2⟩ := c3_ BK286; obtain ⟨hfz28_0, hfz28_1, hfz28_2⟩ := f3_ BK286; go_wp2_with (first | ((with_reducible refine gate_callee (f := 43) rfl ?_); refine goesL_ (some 33) rfl rfl Tryd.func43 (by kernel_rfl) rfl #[.int .i64 a0_1] rfl goa_ ?_; (with_reducible refine (strconv_Itoa.calls a0_1 t290 _ A26.out (Tbl.tab0_stays HTB.out bel_)).mono ?_); rintro e w29 ⟨rfl, hb⟩; refine ⟨_, rfl, ?_⟩; replace BK286 := blb_ BK286 hb; replace HB := am_ (below_step bel_ hb); clear hb))
       go_meet
       case rel => exact ⟨_, (t290 ++ ((⟨#[32]⟩ : ByteArray) ++ t288)), rfs_, H', ⟨by have := HJ4.out; first | omega | exact Nat.le_refl _⟩, ⟨blk_⟩, ⟨bel_⟩⟩
      rw [if_neg c27] at H; exact absurd H (by simp)
     rw [if_neg c25] at H; exact absurd H (by simp)
    replace c19 := Bool.eq_false_iff.mpr c19; subst c19; rw [if_neg (show ¬ (false = true) by decide)] at H; have H' := am_ H; clear H; go_wp2; go_meet
    case rel => exact ⟨_, (t288), rfs_, H', ⟨by have := HJ4.out; first | omega | exact Nat.le_refl _⟩, ⟨blk_⟩, ⟨bel_⟩⟩
   clear HC18; obtain ⟨kq, x3_17, rfl, HA, HJ17, BK286, HB⟩ := hcut
   cases kq with
   | zero => exact absurd HA.out (by simp [line_Text.j1])
   | succ kj17 =>
    have H := HA.out; clear HA; simp only [line_Text.j1] at H; by_cases c30 : a0_0 = 1
    ·rw [if_pos c30] at H; have c30b0 : (a0_0 == 1) = true := beq_iff_eq.mpr c30; have c30b1 : (a0_0 != 1) = false := bne_eq_false_iff_eq.mpr c30; clear c30; obtain rfl := si_ H; obtain ⟨hcz31_0, hcz31_1, hcz31_2⟩ := c3_ BK286; obtain ⟨hfz31_0, hfz31_1, hfz31_2⟩ := f3_ BK286; go_wp2; go_ret
     exact ⟨rsl_, bel_⟩
    rw [if_neg c30] at H; have c30b0 : (a0_0 == 1) = false := beq_eq_false_iff_ne.mpr c30; have c30b1 : (a0_0 != 1) = true := bne_iff_ne.mpr c30; by_cases c32 : a0_0 = 4
    ·rw [if_pos c32] at H; have c32b0 : (a0_0 == 4) = true := beq_iff_eq.mpr c32; have c32b1 : (a0_0 != 4) = false := bne_eq_false_iff_eq.mpr c32; clear c32; by_cases c33 : 5 + x3_17.size ≤ 9223372036854775807
     ·rw [if_pos c33] at H; have c33b0 := eq_true c33; have c33b1 : decide (5 + x3_17.size ≤ 9223372036854775807) = true := dt_ c33; try have c33b2 : (9223372036854775807 < 5 + x3_17.size) = False := eq_false (Nat.not_lt.2 c33)
      obtain rfl := si_ H; obtain ⟨hcz34_0, hcz34_1, hcz34_2⟩ := c3_ BK286; obtain ⟨hfz34_0, hfz34_1, hfz34_2⟩ := f3_ BK286; go_wp2; go_ret
      exact ⟨rsl_, bel_⟩
     rw [if_neg c33] at H; exact absurd H (by simp)
    rw [if_neg c32] at H; have c32b0 : (a0_0 == 4) = false := beq_eq_false_iff_ne.mpr c32; have c32b1 : (a0_0 != 4) = true := bne_iff_ne.mpr c32; obtain rfl := si_ H; obtain ⟨hcz35_0, hcz35_1, hcz35_2⟩ := c3_ BK286; obtain ⟨hfz35_0, hfz35_1, hfz35_2⟩ := f3_ BK286; go_wp2; go_ret
    exact ⟨rsl_, bel_⟩
 replace c3 := Bool.eq_false_iff.mpr c3; subst c3; rw [if_neg (show ¬ (false = true) by decide)] at H; obtain rfl := si_ H; go_enter Tryd.func22, Tryd.ntmps22
 go_wp2_with (first | ((with_reducible refine gate_dst (N := 1) rfl ?_); refine box_event ?hg (N := 1) ?hd (cs := #[.int .i64 a0_0, .int .i64 a0_1, .string a0_2]) (t := 41) ?hr ?_; (case hd => rfl); (case hg => rfl); (case hr => first | (go_simp; done) | (go_simp; rfl)); intro gb286 hg w36 hbox hb; have BK286 := am_ (hbox); have GW286 := am_ ((bsz_ hg : w.heap.size ≤ gb286)); have GE286 := am_ ((bsz_ hg : w.heap.size ≤ gb286)); replace HB := am_ (below_step bel_ hb); clear hb hbox hg; obtain ⟨hcz37_0, hcz37_1, hcz37_2⟩ := c3_ BK286; obtain ⟨hfz37_0, hfz37_1, hfz37_2⟩ := f3_ BK286) | ((with_reducible refine gate_callee (f := 19) rfl ?_); refine goesL_ (some 5) rfl rfl Tryd.func19 (by kernel_rfl) rfl #[.agg #[.int .i64 a0_0, .int .i64 a0_1, .string a0_2]] rfl goa_ ?_; (with_reducible refine (line_Good.calls k a0_0 a0_1 a0_2 false _ A2.out).mono ?_); rintro e w38 ⟨rfl, hb⟩; refine ⟨_, rfl, ?_⟩; replace BK286 := blb_ BK286 hb; replace HB := am_ (below_step bel_ hb); clear hb))
 go_ret
 exact ⟨rsl_, bel_⟩

end Go.Proofs.YtofdhdafabmhmaaDoor.PLf4
end
section
namespace Go.Proofs.YtofdhdafabmhmaaDoor.Giv
open Go.RowKit Go.Proofs.YtofdhdafabmhmaaDoorW.PrintWords Go.Proofs.YtofdhdafabmhmaaDoorW.PrintLast Go.Proofs.YtofdhdafabmhmaaDoorW.PrintMore Go.Proofs.YtofdhdafabmhmaaDoor.PLf4
open Go.Proofs.YtofdhdafabmhmaaDoor.Opn Go.BigFrame
def line_Four.l0 : Nat → List S41 → Option (List S41)
  | 0, _ => none
  | k + 1, x => if (x.length : Int) < 4 then (line_other.f (rd_T41 x (if x.length = 3 then 1 else 0)).f0 (rd_T41 x (if x.length = 3 then 1 else 0)).f1 (rd_T41 x (if x.length = 3 then 1 else 0)).f2).bind fun t => line_Four.l0 k (x ++ [⟨t.1, t.2.1, t.2.2⟩]) else some x
def line_Four.f (k : Nat) (l0 : List S67) (a1 : Int) : Option (Int × Int × ByteArray × Int × Int × ByteArray × Int × Int × ByteArray × Int × Int × ByteArray × Int × Int) :=
  (line_lines.f k l0 a1 4).bind fun r => if r.2.2 = 0 then if 0 < r.1.length then (line_Four.l0 k r.1).bind fun x => if x.length = 4 then some ((rd_T41 x 0).f0, (rd_T41 x 0).f1, (rd_T41 x 0).f2, (rd_T41 x 1).f0, (rd_T41 x 1).f1, (rd_T41 x 1).f2, (rd_T41 x 2).f0, (rd_T41 x 2).f1, (rd_T41 x 2).f2, (rd_T41 x 3).f0, (rd_T41 x 3).f1, (rd_T41 x 3).f2, r.2.1, 0) else none else none
    else some (0, 0, ⟨#[]⟩, 0, 0, ⟨#[]⟩, 0, 0, ⟨#[]⟩, 0, 0, ⟨#[]⟩, r.2.1, r.2.2)
theorem line_Four.mono_l : ∀ k x, LeO (line_Four.l0 k x) (line_Four.l0 (k + 1) x)
  | 0, x => fun r h => by simp [line_Four.l0] at h
  | k + 1, x => by
    unfold line_Four.l0; exact LeO.ite (LeO.bind (LeO.refl _) (fun t => line_Four.mono_l k _)) (LeO.refl _)
theorem line_Four.mono : ∀ l0 a1 k, LeO (line_Four.f k l0 a1) (line_Four.f (k + 1) l0 a1) := by
  intro l0 a1 k; unfold line_Four.f; exact LeO.bind (line_lines.mono _ _ _ _) (fun r => LeO.ite (LeO.ite (LeO.bind (line_Four.mono_l _ _) (fun x => LeO.refl _)) (LeO.refl _)) (LeO.refl _))
namespace line_Four
structure Sp (w w1 : World) (b4 : Nat) (cs : Array Value) : Prop where
  s : w1.heap[b4]? = some (.cells cs 50 (0, 0))
  b : Below w.heap.size w w1
  o : w.heap.size ≤ b4
def Z : Array Value := #[.int .i64 0, .int .i64 0, .string (⟨#[]⟩ : ByteArray), .int .i64 0, .int .i64 0, .string (⟨#[]⟩ : ByteArray), .int .i64 0, .int .i64 0, .string (⟨#[]⟩ : ByteArray), .int .i64 0, .int .i64 0, .string (⟨#[]⟩ : ByteArray)]
section
variable {w w1 w2 : World} {b4 : Nat} {cs : Array Value} {v_ v0 v1 v2 v3 v4 v5 v6 v7 v8 v9 v10 v11 : Value}
theorem Sp.below (h : Sp w w1 b4 cs) (hb : Below w1.heap.size w1 w2) : Sp w w2 b4 cs := ⟨blk_below h.s hb, below_step h.b hb, h.o⟩
theorem Sp.drewN (h : Sp w w1 b4 cs) (i : Nat) : Sp w (w1.drewN i) b4 cs := h.below (pw_below_drewN (Below.refl _ _) i)
theorem Sp.drew (h : Sp w w1 b4 cs) : Sp w w1.drew b4 cs := h.below (below_drew (Below.refl _ _))
theorem Sp.alloc (h : Sp w w1 b4 cs) (o : Obj) : Sp w (w1.alloc o) b4 cs := h.below (below_alloc (Below.refl _ _) _)
theorem Sp.grown (h : Sp w w1 b4 cs) {row : Option Nat} (hg : w1.grownBy w2 row) (n0 : some b4 ≠ row) (hb : Below w.heap.size w w2) : Sp w w2 b4 cs := ⟨blk_grown h.s hg n0, hb, h.o⟩
set_option maxHeartbeats 4000000 in
theorem Sp.sets (h : Sp w w1 b4 #[v0, v1, v2, v3, v4, v5, v6, v7, v8, v9, v10, v11]) (u0 u1 u2 u3 u4 u5 u6 u7 u8 u9 u10 u11 : Value) : Sp w ((((((((((((w1.setCell ⟨b4, 0, none⟩ u0).setCell ⟨b4, 1, none⟩ u1).setCell ⟨b4, 2, none⟩ u2).setCell ⟨b4, 3, none⟩ u3).setCell ⟨b4, 4, none⟩ u4).setCell ⟨b4, 5, none⟩ u5).setCell ⟨b4, 6, none⟩ u6).setCell ⟨b4, 7, none⟩ u7).setCell ⟨b4, 8, none⟩ u8).setCell ⟨b4, 9, none⟩ u9).setCell ⟨b4, 10, none⟩ u10).setCell ⟨b4, 11, none⟩ u11) b4 #[u0, u1, u2, u3, u4, u5, u6, u7, u8, u9, u10, u11] := by
  have p0 := blk_put (cs := #[v0, v1, v2, v3, v4, v5, v6, v7, v8, v9, v10, v11]) (cs' := #[u0, v1, v2, v3, v4, v5, v6, v7, v8, v9, v10, v11]) h.s 0 u0 rfl; have p1 := blk_put (cs := #[u0, v1, v2, v3, v4, v5, v6, v7, v8, v9, v10, v11]) (cs' := #[u0, u1, v2, v3, v4, v5, v6, v7, v8, v9, v10, v11]) p0 1 u1 rfl; have p2 := blk_put (cs := #[u0, u1, v2, v3, v4, v5, v6, v7, v8, v9, v10, v11]) (cs' := #[u0, u1, u2, v3, v4, v5, v6, v7, v8, v9, v10, v11]) p1 2 u2 rfl; have p3 := blk_put (cs := #[u0, u1, u2, v3, v4, v5, v6, v7, v8, v9, v10, v11]) (cs' := #[u0, u1, u2, u3, v4, v5, v6, v7, v8, v9, v10, v11]) p2 3 u3 rfl; have p4 := blk_put (cs := #[u0, u1, u2, u3, v4, v5, v6, v7, v8, v9, v10, v11]) (cs' := #[u0, u1, u2, u3, u4, v5, v6, v7, v8, v9, v10, v11]) p3 4 u4 rfl; have p5 := blk_put (cs := #[u0, u1, u2, u3, u4, v5, v6, v7, v8, v9, v10, v11]) (cs' := #[u0, u1, u2, u3, u4, u5, v6, v7, v8, v9, v10, v11]) p4 5 u5 rfl; have p6 := blk_put (cs := #[u0, u1, u2, u3, u4, u5, v6, v7, v8, v9, v10, v11]) (cs' := #[u0, u1, u2, u3, u4, u5, u6, v7, v8, v9, v10, v11]) p5 6 u6 rfl; have p7 := blk_put (cs := #[u0, u1, u2, u3, u4, u5, u6, v7, v8, v9, v10, v11]) (cs' := #[u0, u1, u2, u3, u4, u5, u6, u7, v8, v9, v10, v11]) p6 7 u7 rfl; have p8 := blk_put (cs := #[u0, u1, u2, u3, u4, u5, u6, u7, v8, v9, v10, v11]) (cs' := #[u0, u1, u2, u3, u4, u5, u6, u7, u8, v9, v10, v11]) p7 8 u8 rfl; have p9 := blk_put (cs := #[u0, u1, u2, u3, u4, u5, u6, u7, u8, v9, v10, v11]) (cs' := #[u0, u1, u2, u3, u4, u5, u6, u7, u8, u9, v10, v11]) p8 9 u9 rfl; have p10 := blk_put (cs := #[u0, u1, u2, u3, u4, u5, u6, u7, u8, u9, v10, v11]) (cs' := #[u0, u1, u2, u3, u4, u5, u6, u7, u8, u9, u10, v11]) p9 10 u10 rfl; have p11 := blk_put (cs := #[u0, u1, u2, u3, u4, u5, u6, u7, u8, u9, u10, v11]) (cs' := #[u0, u1, u2, u3, u4, u5, u6, u7, u8, u9, u10, u11]) p10 11 u11 rfl; have q0 := below_set (j := 0) (v := u0) h.b h.o; have q1 := below_set (j := 1) (v := u1) q0 h.o; have q2 := below_set (j := 2) (v := u2) q1 h.o; have q3 := below_set (j := 3) (v := u3) q2 h.o; have q4 := below_set (j := 4) (v := u4) q3 h.o; have q5 := below_set (j := 5) (v := u5) q4 h.o; have q6 := below_set (j := 6) (v := u6) q5 h.o; have q7 := below_set (j := 7) (v := u7) q6 h.o; have q8 := below_set (j := 8) (v := u8) q7 h.o; have q9 := below_set (j := 9) (v := u9) q8 h.o; have q10 := below_set (j := 10) (v := u10) q9 h.o; have q11 := below_set (j := 11) (v := u11) q10 h.o; exact ⟨p11, q11, h.o⟩
theorem Sp.c (h : Sp w w1 b4 #[v0, v1, v2, v3, v4, v5, v6, v7, v8, v9, v10, v11]) : w1.cell? ⟨b4, 0, none⟩ = some v0 ∧ w1.cell? ⟨b4, 1, none⟩ = some v1 ∧ w1.cell? ⟨b4, 2, none⟩ = some v2 ∧ w1.cell? ⟨b4, 3, none⟩ = some v3 ∧ w1.cell? ⟨b4, 4, none⟩ = some v4 ∧ w1.cell? ⟨b4, 5, none⟩ = some v5 ∧ w1.cell? ⟨b4, 6, none⟩ = some v6 ∧ w1.cell? ⟨b4, 7, none⟩ = some v7 ∧ w1.cell? ⟨b4, 8, none⟩ = some v8 ∧ w1.cell? ⟨b4, 9, none⟩ = some v9 ∧ w1.cell? ⟨b4, 10, none⟩ = some v10 ∧ w1.cell? ⟨b4, 11, none⟩ = some v11 := ⟨(blk_cell h.s 0).trans rfl, (blk_cell h.s 1).trans rfl, (blk_cell h.s 2).trans rfl, (blk_cell h.s 3).trans rfl, (blk_cell h.s 4).trans rfl, (blk_cell h.s 5).trans rfl, (blk_cell h.s 6).trans rfl, (blk_cell h.s 7).trans rfl, (blk_cell h.s 8).trans rfl, (blk_cell h.s 9).trans rfl, (blk_cell h.s 10).trans rfl, (blk_cell h.s 11).trans rfl⟩
theorem Sp.f (h : Sp w w1 b4 cs) : w1.frozen? ⟨b4, 0, none⟩ = false ∧ w1.frozen? ⟨b4, 1, none⟩ = false ∧ w1.frozen? ⟨b4, 2, none⟩ = false ∧ w1.frozen? ⟨b4, 3, none⟩ = false ∧ w1.frozen? ⟨b4, 4, none⟩ = false ∧ w1.frozen? ⟨b4, 5, none⟩ = false ∧ w1.frozen? ⟨b4, 6, none⟩ = false ∧ w1.frozen? ⟨b4, 7, none⟩ = false ∧ w1.frozen? ⟨b4, 8, none⟩ = false ∧ w1.frozen? ⟨b4, 9, none⟩ = false ∧ w1.frozen? ⟨b4, 10, none⟩ = false ∧ w1.frozen? ⟨b4, 11, none⟩ = false := ⟨blk_frozen h.s 0, blk_frozen h.s 1, blk_frozen h.s 2, blk_frozen h.s 3, blk_frozen h.s 4, blk_frozen h.s 5, blk_frozen h.s 6, blk_frozen h.s 7, blk_frozen h.s 8, blk_frozen h.s 9, blk_frozen h.s 10, blk_frozen h.s 11⟩
def vals (x : List S41) : List Value := [(.int .i64 (rd_T41 x 0).f0), (.int .i64 (rd_T41 x 0).f1), (.string (rd_T41 x 0).f2), (.int .i64 (rd_T41 x 1).f0), (.int .i64 (rd_T41 x 1).f1), (.string (rd_T41 x 1).f2), (.int .i64 (rd_T41 x 2).f0), (.int .i64 (rd_T41 x 2).f1), (.string (rd_T41 x 2).f2), (.int .i64 (rd_T41 x 3).f0), (.int .i64 (rd_T41 x 3).f1), (.string (rd_T41 x 3).f2)]
theorem one (x : List S41) : ∀ v ∈ vals x, v.oneCell' = true := by
  intro v hv; simp only [vals, List.mem_cons, List.not_mem_nil, or_false] at hv; rcases hv with rfl | rfl | rfl | rfl | rfl | rfl | rfl | rfl | rfl | rfl | rfl | rfl <;> rfl
theorem src {w : World} {ad : Addr} {x : List S41} (h : Kd.C k41 w (some ad) x.length x) (h4 : x.length = 4) : ∀ (j : Nat) (v : Value), (vals x)[j]? = some v → w.cell? (ad.add j) = some v := by
  obtain ⟨_, e0, a0, a1, a2⟩ := at_T41 h 0 (by omega) (by omega); cases e0
  obtain ⟨_, e0, b0, b1, b2⟩ := at_T41 h 1 (by omega) (by omega); cases e0
  obtain ⟨_, e0, c0, c1, c2⟩ := at_T41 h 2 (by omega) (by omega); cases e0
  obtain ⟨_, e0, d0, d1, d2⟩ := at_T41 h 3 (by omega) (by omega); cases e0
  intro j v hj; rcases j with _ | _ | _ | _ | _ | _ | _ | _ | _ | _ | _ | _ | j
  · cases hj; exact a0
  · cases hj; exact a1
  · cases hj; exact a2
  · cases hj; exact b0
  · cases hj; exact b1
  · cases hj; exact b2
  · cases hj; exact c0
  · cases hj; exact c1
  · cases hj; exact c2
  · cases hj; exact d0
  · cases hj; exact d1
  · cases hj; exact d2
  cases hj
theorem Sp.copied (h : Sp w w1 b4 Z) (x : List S41) : Sp w (w1.setRow b4 (Z.toList.take 0 ++ vals x ++ Z.toList.drop (0 + (vals x).length)).toArray) b4 (vals x).toArray :=
  ⟨setRow_heap w1 b4 _ _ _ _ h.s, below_setRow h.b h.o _, h.o⟩
theorem Sp.cv {x : List S41} (h : Sp w w1 b4 (vals x).toArray) : w1.cell? ⟨b4, 0, none⟩ = some (.int .i64 (rd_T41 x 0).f0) ∧ w1.cell? ⟨b4, 1, none⟩ = some (.int .i64 (rd_T41 x 0).f1) ∧ w1.cell? ⟨b4, 2, none⟩ = some (.string (rd_T41 x 0).f2) ∧ w1.cell? ⟨b4, 3, none⟩ = some (.int .i64 (rd_T41 x 1).f0) ∧ w1.cell? ⟨b4, 4, none⟩ = some (.int .i64 (rd_T41 x 1).f1) ∧ w1.cell? ⟨b4, 5, none⟩ = some (.string (rd_T41 x 1).f2) ∧ w1.cell? ⟨b4, 6, none⟩ = some (.int .i64 (rd_T41 x 2).f0) ∧ w1.cell? ⟨b4, 7, none⟩ = some (.int .i64 (rd_T41 x 2).f1) ∧ w1.cell? ⟨b4, 8, none⟩ = some (.string (rd_T41 x 2).f2) ∧ w1.cell? ⟨b4, 9, none⟩ = some (.int .i64 (rd_T41 x 3).f0) ∧ w1.cell? ⟨b4, 10, none⟩ = some (.int .i64 (rd_T41 x 3).f1) ∧ w1.cell? ⟨b4, 11, none⟩ = some (.string (rd_T41 x 3).f2) := ⟨(blk_cell h.s 0).trans rfl, (blk_cell h.s 1).trans rfl, (blk_cell h.s 2).trans rfl, (blk_cell h.s 3).trans rfl, (blk_cell h.s 4).trans rfl, (blk_cell h.s 5).trans rfl, (blk_cell h.s 6).trans rfl, (blk_cell h.s 7).trans rfl, (blk_cell h.s 8).trans rfl, (blk_cell h.s 9).trans rfl, (blk_cell h.s 10).trans rfl, (blk_cell h.s 11).trans rfl⟩
def Row (w w1 : World) (b4 : Nat) (v : Value) (x : List S41) : Prop := Kd.R k41 41 w1 w.heap.size (fun k => k ≠ b4) v x
theorem Row.sets {v : Value} {x : List S41} (h : Row w w1 b4 v x) (u0 u1 u2 u3 u4 u5 u6 u7 u8 u9 u10 u11 : Value) : Row w ((((((((((((w1.setCell ⟨b4, 0, none⟩ u0).setCell ⟨b4, 1, none⟩ u1).setCell ⟨b4, 2, none⟩ u2).setCell ⟨b4, 3, none⟩ u3).setCell ⟨b4, 4, none⟩ u4).setCell ⟨b4, 5, none⟩ u5).setCell ⟨b4, 6, none⟩ u6).setCell ⟨b4, 7, none⟩ u7).setCell ⟨b4, 8, none⟩ u8).setCell ⟨b4, 9, none⟩ u9).setCell ⟨b4, 10, none⟩ u10).setCell ⟨b4, 11, none⟩ u11) b4 v x := by
  have h0 := Kd.R_far (p := ⟨b4, 0, none⟩) h (fun _ hk => hk) u0; have h1 := Kd.R_far (p := ⟨b4, 1, none⟩) h0 (fun _ hk => hk) u1; have h2 := Kd.R_far (p := ⟨b4, 2, none⟩) h1 (fun _ hk => hk) u2; have h3 := Kd.R_far (p := ⟨b4, 3, none⟩) h2 (fun _ hk => hk) u3; have h4 := Kd.R_far (p := ⟨b4, 4, none⟩) h3 (fun _ hk => hk) u4; have h5 := Kd.R_far (p := ⟨b4, 5, none⟩) h4 (fun _ hk => hk) u5; have h6 := Kd.R_far (p := ⟨b4, 6, none⟩) h5 (fun _ hk => hk) u6; have h7 := Kd.R_far (p := ⟨b4, 7, none⟩) h6 (fun _ hk => hk) u7; have h8 := Kd.R_far (p := ⟨b4, 8, none⟩) h7 (fun _ hk => hk) u8; have h9 := Kd.R_far (p := ⟨b4, 9, none⟩) h8 (fun _ hk => hk) u9; have h10 := Kd.R_far (p := ⟨b4, 10, none⟩) h9 (fun _ hk => hk) u10; have h11 := Kd.R_far (p := ⟨b4, 11, none⟩) h10 (fun _ hk => hk) u11; exact h11
end
theorem at_ {P : Program} {id : Nat} {ops : Array Oper} {b : Bool} {Q : Exit → Act → World → Prop} {a : Act} {W : World} (h : ∀ w', w' = W → (Code.region id ops b).wp P Q a w') : (Code.region id ops b).wp P Q a W := h W rfl
set_option maxHeartbeats 16000000 in
set_option maxRecDepth 100000 in
theorem calls (k : Nat) (A0 : Option Addr) (c0 : Nat) (l0 : List S67) (a1 r1 r2 : Int) (r3 : ByteArray) (r4 r5 : Int) (r6 : ByteArray) (r7 r8 : Int) (r9 : ByteArray) (r10 r11 : Int) (r12 : ByteArray) (r13 r14 : Int) (w : World) (hr0 : Kd.C k67 w A0 l0.length l0) (hc0 : l0.length ≤ c0) (h : line_Four.f k l0 a1 = some (r1, r2, r3, r4, r5, r6, r7, r8, r9, r10, r11, r12, r13, r14)) :
    Calls Tryd.prog 26 #[.slice A0 l0.length c0, .int .i64 a1] w fun e w' => e = .returned (.tuple #[.agg #[.int .i64 r1, .int .i64 r2, .string r3, .int .i64 r4, .int .i64 r5, .string r6, .int .i64 r7, .int .i64 r8, .string r9, .int .i64 r10, .int .i64 r11, .string r12], .int .i64 r13, .int .i64 r14]) ∧ Below w.heap.size w w' := by
  have hu2 := Tryd.underlying41; have hu3 := Tryd.underlying50; have HR := am_ hr0; have HC := am_ hc0; have HB := am_ (Below.refl w.heap.size w); unfold line_Four.f at h; replace h := bs_ h; obtain ⟨⟨t1, t2, t3⟩, hk, h⟩ := h; have A1 := am_ hk; clear hk hr0 hc0; dsimp only at h; by_cases e0 : t3 = 0
  · rw [if_pos e0] at h
    have q0 : (t3 != 0) = false := bne_eq_false_iff_eq.2 e0; clear e0; by_cases e1 : 0 < t1.length
    rotate_left
    · rw [if_neg e1] at h
      cases h
    rw [if_pos e1] at h; replace h := bs_ h; obtain ⟨x, hm, h⟩ := h; by_cases e2 : x.length = 4
    rotate_left
    · rw [if_neg e2] at h
      cases h
    rw [if_pos e2] at h; simp only [Option.some.injEq, Prod.mk.injEq] at h; obtain ⟨rfl, rfl, rfl, rfl, rfl, rfl, rfl, rfl, rfl, rfl, rfl, rfl, rfl, rfl⟩ := h; have HM := am_ hm; have E1 := am_ e1; have E2 := am_ e2; clear hm e1 e2; go_enter Tryd.func26, Tryd.ntmps26
    go_wp2_with (first | go_step3 | ((with_reducible refine gate_dst (N := 4) rfl ?_); refine box_event ?hg (N := 4) ?hd (cs := Z) (t := 50) ?hr ?_; (case hd => rfl); (case hg => rfl); (case hr => first | (go_simp; done) | (go_simp; rfl)); intro b4 hg w2 hbox hb; have HX : Aside0 (Sp w w2 b4 Z) := ⟨⟨hbox, below_step bel_ hb, (bsz_ hg : w.heap.size ≤ b4)⟩⟩; clear HB hb hbox hg) | ((with_reducible refine gate_callee (f := 49) rfl ?_); refine goesL_ (some 11) rfl rfl Tryd.func49 (by kernel_rfl) rfl #[.slice A0 l0.length c0, .int .i64 a1, .int .i64 4] rfl goa_ ?_; (with_reducible refine (line_lines.calls k _ _ l0 a1 4 t1 t2 t3 _ ?side1 ?side2 A1.out).mono ?_); (case side1 => exact Kd.C_below HR.out (show Sp w _ b4 Z by repeat (first | (with_reducible first | exact HX.out | apply Sp.drewN | apply Sp.drew | apply Sp.alloc))).b); (case side2 => exact HC.out); rintro e w10 ⟨v, rfl, ho0, hb⟩; refine ⟨_, rfl, ?_⟩; have HO : Aside0 (Row w w10 b4 v t1) := ⟨Kd.R_mono (Kd.R_lower (Kd.R_newB ho0 (g := b4) (show Sp w _ b4 Z by repeat (first | (with_reducible first | exact HX.out | apply Sp.drewN | apply Sp.drew | apply Sp.alloc))).s) (below_size (show Sp w _ b4 Z by repeat (first | (with_reducible first | exact HX.out | apply Sp.drewN | apply Sp.drew | apply Sp.alloc))).b)) (fun _ hk => hk.2)⟩; have n0_ := am_ (Sp.below (show Sp w _ b4 Z by repeat (first | (with_reducible first | exact HX.out | apply Sp.drewN | apply Sp.drew | apply Sp.alloc))) hb); clear HX hb ho0; have HX := n0_; clear n0_; obtain ⟨Ao, cv, eo⟩ := Kd.R_slice HO.out; subst eo; obtain ⟨hc0, hc1, hc2, hc3, hc4, hc5, hc6, hc7, hc8, hc9, hc10, hc11⟩ := Sp.c HX.out; obtain ⟨hz0, hz1, hz2, hz3, hz4, hz5, hz6, hz7, hz8, hz9, hz10, hz11⟩ := Sp.f HX.out))
    obtain ⟨ad, cv2, ev⟩ := Kd.R_slice1 HO.out E1.out; cases ev
    clear hc0 hz0 hc1 hz1 hc2 hz2 hc3 hz3 hc4 hz4 hc5 hz5 hc6 hz6 hc7 hz7 hc8 hz8 hc9 hz9 hc10 hz10 hc11 hz11; go_loopg [7] k (fun kq v7 w' => ∃ (y : List S41) (ad : Addr) (cy : Nat), v7 = .slice (some ad) y.length cy ∧ Aside0 (0 < y.length) ∧ Aside0 (line_Four.l0 kq y = some x) ∧ Aside0 (Sp w w' b4 Z) ∧ Aside0 (Row w w' b4 (.slice (some ad) y.length cy) y))
    case atStart => exact ⟨t1, ad, cv, rfs_, E1, HM, ⟨(show Sp w _ b4 Z by repeat (first | (with_reducible first | exact HX.out | apply Sp.drewN | apply Sp.drew | apply Sp.alloc)))⟩, ⟨(row_ HO)⟩⟩
    case round =>
      clear HX HO HM E1; obtain ⟨y, ad, cy, rfl, HY, HA, HX, HO⟩ := hrel
      cases gk with
      | zero => exact absurd HA.out (by simp [line_Four.l0])
      | succ k1 =>
        have H := HA.out; clear HA; simp only [line_Four.l0] at H; by_cases c4 : (y.length : Int) < 4
        · rw [if_pos c4] at H
          replace H := bs_ H; obtain ⟨⟨u1, u2, u3⟩, ho, H⟩ := H; have A2 := am_ ho; have H' := am_ H; have C4 := am_ c4; have c4b0 : decide ((y.length : Int) < 4) = true := dt_ c4; have c4b1 : decide (y.length < 4) = true := dt_ (by omega); clear H ho c4; have hy := HY.out; have hc4 := C4.out; by_cases c3 : y.length = 3
          · rw [if_pos c3] at A2
            have mx : max (0 : Int) ((y.length : Int) - 2) = 1 := by omega
            have mw : max (0 : Int) (wrap64 ((y.length : Int) - 2)) = 1 := by rw [Go.Proofs.YtofdhdafabmhmaaDoor.Evs.w64 (by omega) (by omega)]; omega
            have qi : (1 < y.length) = True := eq_true (by omega); have C3 := am_ c3; obtain ⟨_, e0, hx0, hx1, hx2⟩ := at_T41 (Kd.R_reads' HO.out).2.2 1 (by omega) (by omega); cases e0
            clear c3 hy hc4; (try rw [show ((0 : Int)).toNat = 0 from rfl] at hx0 hx1 hx2)
            (try rw [show 0 * 3 = 0 from rfl] at hx0 hx1 hx2)
            (try rw [Addr.add_zero'] at hx0 hx1 hx2)
            (try simp only [Addr.add, show ((1 : Int)).toNat * 3 = 3 from rfl, show ((3 : Nat) = 0) = False from eq_false (by decide), if_false] at hx0 hx1 hx2)
            go_wp2_with (first | go_step3 | ((with_reducible refine gate_callee (f := 48) rfl ?_); refine goesL_ (some 31) rfl rfl Tryd.func48 (by kernel_rfl) rfl #[.agg #[.int .i64 (rd_T41 y 1).f0, .int .i64 (rd_T41 y 1).f1, .string (rd_T41 y 1).f2]] rfl goa_ ?_; (with_reducible refine (line_other.calls _ _ _ u1 u2 u3 _ A2.out).mono ?_); rintro e w13 ⟨rfl, hb⟩; refine ⟨_, rfl, ?_⟩; have n0_ := am_ (Sp.below (show Sp w _ b4 Z by repeat (first | (with_reducible first | exact HX.out | apply Sp.drewN | apply Sp.drew | apply Sp.alloc))) hb); have n1_ : Aside0 (Row w w13 b4 (.slice (some ad) y.length cy) y) := ⟨Kd.R_below (row_ HO) hb⟩; clear HX HO hb; have HX := n0_; have HO := n1_; clear n0_ n1_) | ((with_reducible refine gate_builtin (b := .append) (xs := #[.tmp 23, .tmp 32]) rfl ?_); at_builtin; refine Kd.R_append k41 (w0 := w) w.heap.size rfl (.tmp 23) (.tmp 32) 77 41 (.agg #[(.int .i64 0), (.int .i64 0), (.string ⟨#[]⟩)]) 32 rfl Tryd.underlying77 info41 rfl (by decide) (by omega) (.slice (some ad) y.length cy) y (⟨u1, u2, u3⟩ : S41) [.int .i64 u1, .int .i64 u2, .string u3] (fun k => k ≠ b4) (fun _ => False) rfl rfl ?aP (fun _ hk => hk.elim) ?aF ?aO ?aB ?aS ?aL ?_; (case aP => exact k41_mkM _ _ _ (⟨u1, u2, u3⟩ : S41)); (case aB => exact (Sp.b (show Sp w _ b4 Z by repeat (first | (with_reducible first | exact HX.out | apply Sp.drewN | apply Sp.drew | apply Sp.alloc))))); (case aF => exact (fun k hk => by have := blk_lt (Sp.s (show Sp w _ b4 Z by repeat (first | (with_reducible first | exact HX.out | apply Sp.drewN | apply Sp.drew | apply Sp.alloc)))); omega)); (case aO => exact (row_ HO)); (case aS => exact (below_size (Sp.b (show Sp w _ b4 Z by repeat (first | (with_reducible first | exact HX.out | apply Sp.drewN | apply Sp.drew | apply Sp.alloc)))))); (case aL => have := C4.out; omega); intro v2 w14 ho hb hg hat; have HG := am_ (HO.out.1 ad.block rfl); have n0_ := am_ (Sp.grown (show Sp w _ b4 Z by repeat (first | (with_reducible first | exact HX.out | apply Sp.drewN | apply Sp.drew | apply Sp.alloc))) hg (fun e => HG.out (si_ e).symm) hb); clear HX HO; have HX := n0_; have HO : Aside0 (Row w w14 b4 v2 (y ++ [⟨u1, u2, u3⟩])) := ⟨ho⟩; clear n0_ ho hb hg hat HG))
            have hl : (y ++ [(⟨u1, u2, u3⟩ : S41)]).length = y.length + 1 := by rw [List.length_append, List.length_singleton]
            obtain ⟨ad2, cx, rfl⟩ := Kd.R_slice1 HO.out (by rw [hl]; omega); go_roundg k1
            case measure => omega
            case rel => exact ⟨_, ad2, cx, rfs_, ⟨by rw [hl]; omega⟩, H', ⟨(show Sp w _ b4 Z by repeat (first | (with_reducible first | exact HX.out | apply Sp.drewN | apply Sp.drew | apply Sp.alloc)))⟩, ⟨(row_ HO)⟩⟩
          rw [if_neg c3] at A2; have mx : max (0 : Int) ((y.length : Int) - 2) = 0 := by omega
          have mw : max (0 : Int) (wrap64 ((y.length : Int) - 2)) = 0 := by rw [Go.Proofs.YtofdhdafabmhmaaDoor.Evs.w64 (by omega) (by omega)]; omega
          have qi : (0 < y.length) = True := eq_true (by omega); have C3 := am_ c3; obtain ⟨_, e0, hx0, hx1, hx2⟩ := at_T41 (Kd.R_reads' HO.out).2.2 0 (by omega) (by omega); cases e0
          clear c3 hy hc4; (try rw [show ((0 : Int)).toNat = 0 from rfl] at hx0 hx1 hx2)
          (try rw [show 0 * 3 = 0 from rfl] at hx0 hx1 hx2)
          (try rw [Addr.add_zero'] at hx0 hx1 hx2)
          (try simp only [Addr.add, show ((1 : Int)).toNat * 3 = 3 from rfl, show ((3 : Nat) = 0) = False from eq_false (by decide), if_false] at hx0 hx1 hx2)
          go_wp2_with (first | go_step3 | ((with_reducible refine gate_callee (f := 48) rfl ?_); refine goesL_ (some 31) rfl rfl Tryd.func48 (by kernel_rfl) rfl #[.agg #[.int .i64 (rd_T41 y 0).f0, .int .i64 (rd_T41 y 0).f1, .string (rd_T41 y 0).f2]] rfl goa_ ?_; (with_reducible refine (line_other.calls _ _ _ u1 u2 u3 _ A2.out).mono ?_); rintro e w13 ⟨rfl, hb⟩; refine ⟨_, rfl, ?_⟩; have n0_ := am_ (Sp.below (show Sp w _ b4 Z by repeat (first | (with_reducible first | exact HX.out | apply Sp.drewN | apply Sp.drew | apply Sp.alloc))) hb); have n1_ : Aside0 (Row w w13 b4 (.slice (some ad) y.length cy) y) := ⟨Kd.R_below (row_ HO) hb⟩; clear HX HO hb; have HX := n0_; have HO := n1_; clear n0_ n1_) | ((with_reducible refine gate_builtin (b := .append) (xs := #[.tmp 23, .tmp 32]) rfl ?_); at_builtin; refine Kd.R_append k41 (w0 := w) w.heap.size rfl (.tmp 23) (.tmp 32) 77 41 (.agg #[(.int .i64 0), (.int .i64 0), (.string ⟨#[]⟩)]) 32 rfl Tryd.underlying77 info41 rfl (by decide) (by omega) (.slice (some ad) y.length cy) y (⟨u1, u2, u3⟩ : S41) [.int .i64 u1, .int .i64 u2, .string u3] (fun k => k ≠ b4) (fun _ => False) rfl rfl ?aP (fun _ hk => hk.elim) ?aF ?aO ?aB ?aS ?aL ?_; (case aP => exact k41_mkM _ _ _ (⟨u1, u2, u3⟩ : S41)); (case aB => exact (Sp.b (show Sp w _ b4 Z by repeat (first | (with_reducible first | exact HX.out | apply Sp.drewN | apply Sp.drew | apply Sp.alloc))))); (case aF => exact (fun k hk => by have := blk_lt (Sp.s (show Sp w _ b4 Z by repeat (first | (with_reducible first | exact HX.out | apply Sp.drewN | apply Sp.drew | apply Sp.alloc)))); omega)); (case aO => exact (row_ HO)); (case aS => exact (below_size (Sp.b (show Sp w _ b4 Z by repeat (first | (with_reducible first | exact HX.out | apply Sp.drewN | apply Sp.drew | apply Sp.alloc)))))); (case aL => have := C4.out; omega); intro v2 w14 ho hb hg hat; have HG := am_ (HO.out.1 ad.block rfl); have n0_ := am_ (Sp.grown (show Sp w _ b4 Z by repeat (first | (with_reducible first | exact HX.out | apply Sp.drewN | apply Sp.drew | apply Sp.alloc))) hg (fun e => HG.out (si_ e).symm) hb); clear HX HO; have HX := n0_; have HO : Aside0 (Row w w14 b4 v2 (y ++ [⟨u1, u2, u3⟩])) := ⟨ho⟩; clear n0_ ho hb hg hat HG))
          have hl : (y ++ [(⟨u1, u2, u3⟩ : S41)]).length = y.length + 1 := by rw [List.length_append, List.length_singleton]
          obtain ⟨ad2, cx, rfl⟩ := Kd.R_slice1 HO.out (by rw [hl]; omega); go_roundg k1
          case measure => omega
          case rel => exact ⟨_, ad2, cx, rfs_, ⟨by rw [hl]; omega⟩, H', ⟨(show Sp w _ b4 Z by repeat (first | (with_reducible first | exact HX.out | apply Sp.drewN | apply Sp.drew | apply Sp.alloc)))⟩, ⟨(row_ HO)⟩⟩
        rw [if_neg c4] at H; obtain rfl := si_ H; have c4b0 : decide ((y.length : Int) < 4) = false := df_ c4; have c4b1 : decide (y.length < 4) = false := df_ (by omega); clear c4 H; go_wp2_with (first | go_step3)
        have hr := Cpy.run_copy_rows (P := Tryd.prog) wr 77 77 3 41 3 b4 0 4 4 ad y.length cy Z 50 (vals y) Tryd.underlying77 rfl HX.out.s (by rw [E2.out]; rfl) (src (Kd.R_reads' HO.out).2.2 E2.out) (Nat.le_refl _) (one y); rw [hr]; have n0_ := am_ (Sp.copied HX.out y); clear hr HX HO; generalize World.setRow wr _ _ = w15 at n0_ ⊢
        have HX : Aside0 (Sp w w15 b4 #[(.int .i64 (rd_T41 y 0).f0), (.int .i64 (rd_T41 y 0).f1), (.string (rd_T41 y 0).f2), (.int .i64 (rd_T41 y 1).f0), (.int .i64 (rd_T41 y 1).f1), (.string (rd_T41 y 1).f2), (.int .i64 (rd_T41 y 2).f0), (.int .i64 (rd_T41 y 2).f1), (.string (rd_T41 y 2).f2), (.int .i64 (rd_T41 y 3).f0), (.int .i64 (rd_T41 y 3).f1), (.string (rd_T41 y 3).f2)]) := n0_; clear n0_; obtain ⟨hc0, hc1, hc2, hc3, hc4, hc5, hc6, hc7, hc8, hc9, hc10, hc11⟩ := Sp.c HX.out; obtain ⟨hz0, hz1, hz2, hz3, hz4, hz5, hz6, hz7, hz8, hz9, hz10, hz11⟩ := Sp.f HX.out; go_wp2; have HX5 := am_ (Sp.sets (show Sp w _ b4 #[(.int .i64 (rd_T41 y 0).f0), (.int .i64 (rd_T41 y 0).f1), (.string (rd_T41 y 0).f2), (.int .i64 (rd_T41 y 1).f0), (.int .i64 (rd_T41 y 1).f1), (.string (rd_T41 y 1).f2), (.int .i64 (rd_T41 y 2).f0), (.int .i64 (rd_T41 y 2).f1), (.string (rd_T41 y 2).f2), (.int .i64 (rd_T41 y 3).f0), (.int .i64 (rd_T41 y 3).f1), (.string (rd_T41 y 3).f2)] by repeat (first | (with_reducible first | exact HX.out | apply Sp.drewN | apply Sp.drew | apply Sp.alloc))) (.int .i64 (rd_T41 y 0).f0) (.int .i64 (rd_T41 y 0).f1) (.string (rd_T41 y 0).f2) (.int .i64 (rd_T41 y 1).f0) (.int .i64 (rd_T41 y 1).f1) (.string (rd_T41 y 1).f2) (.int .i64 (rd_T41 y 2).f0) (.int .i64 (rd_T41 y 2).f1) (.string (rd_T41 y 2).f2) (.int .i64 (rd_T41 y 3).f0) (.int .i64 (rd_T41 y 3).f1) (.string (rd_T41 y 3).f2)); refine bodyPost_ret (results_list (rs := [.cell 4 50, .tmp 5, .tmp 6]) rfl (by simp) (.cell b4 50 #[(.int .i64 (rd_T41 y 0).f0), (.int .i64 (rd_T41 y 0).f1), (.string (rd_T41 y 0).f2), (.int .i64 (rd_T41 y 1).f0), (.int .i64 (rd_T41 y 1).f1), (.string (rd_T41 y 1).f2), (.int .i64 (rd_T41 y 2).f0), (.int .i64 (rd_T41 y 2).f1), (.string (rd_T41 y 2).f2), (.int .i64 (rd_T41 y 3).f0), (.int .i64 (rd_T41 y 3).f1), (.string (rd_T41 y 3).f2)] (0, 0) _ rfl HX5.out.s Tryd.underlying50 rfl (by kernel_rfl) (.tmp (.tmp .nil)))) rfl ?_
        exact ⟨rsl_, HX5.out.b⟩
  rw [if_neg e0] at h; have q0 : (t3 != 0) = true := bne_iff_ne.2 e0; clear e0; simp only [Option.some.injEq, Prod.mk.injEq] at h; obtain ⟨rfl, rfl, rfl, rfl, rfl, rfl, rfl, rfl, rfl, rfl, rfl, rfl, rfl, rfl⟩ := h; go_enter Tryd.func26, Tryd.ntmps26
  go_wp2_with (first | go_step3 | ((with_reducible refine gate_dst (N := 4) rfl ?_); refine box_event ?hg (N := 4) ?hd (cs := Z) (t := 50) ?hr ?_; (case hd => rfl); (case hg => rfl); (case hr => first | (go_simp; done) | (go_simp; rfl)); intro b4 hg w2 hbox hb; have HX : Aside0 (Sp w w2 b4 Z) := ⟨⟨hbox, below_step bel_ hb, (bsz_ hg : w.heap.size ≤ b4)⟩⟩; clear HB hb hbox hg) | ((with_reducible refine gate_callee (f := 49) rfl ?_); refine goesL_ (some 11) rfl rfl Tryd.func49 (by kernel_rfl) rfl #[.slice A0 l0.length c0, .int .i64 a1, .int .i64 4] rfl goa_ ?_; (with_reducible refine (line_lines.calls k _ _ l0 a1 4 t1 t2 t3 _ ?side1 ?side2 A1.out).mono ?_); (case side1 => exact Kd.C_below HR.out (show Sp w _ b4 Z by repeat (first | (with_reducible first | exact HX.out | apply Sp.drewN | apply Sp.drew | apply Sp.alloc))).b); (case side2 => exact HC.out); rintro e w10 ⟨v, rfl, ho0, hb⟩; refine ⟨_, rfl, ?_⟩; have HO : Aside0 (Row w w10 b4 v t1) := ⟨Kd.R_mono (Kd.R_lower (Kd.R_newB ho0 (g := b4) (show Sp w _ b4 Z by repeat (first | (with_reducible first | exact HX.out | apply Sp.drewN | apply Sp.drew | apply Sp.alloc))).s) (below_size (show Sp w _ b4 Z by repeat (first | (with_reducible first | exact HX.out | apply Sp.drewN | apply Sp.drew | apply Sp.alloc))).b)) (fun _ hk => hk.2)⟩; have n0_ := am_ (Sp.below (show Sp w _ b4 Z by repeat (first | (with_reducible first | exact HX.out | apply Sp.drewN | apply Sp.drew | apply Sp.alloc))) hb); clear HX hb ho0; have HX := n0_; clear n0_; obtain ⟨Ao, cv, eo⟩ := Kd.R_slice HO.out; subst eo; obtain ⟨hc0, hc1, hc2, hc3, hc4, hc5, hc6, hc7, hc8, hc9, hc10, hc11⟩ := Sp.c HX.out; obtain ⟨hz0, hz1, hz2, hz3, hz4, hz5, hz6, hz7, hz8, hz9, hz10, hz11⟩ := Sp.f HX.out))
  have HX5 := am_ (Sp.sets (show Sp w _ b4 Z by repeat (first | (with_reducible first | exact HX.out | apply Sp.drewN | apply Sp.drew | apply Sp.alloc))) (.int .i64 0) (.int .i64 0) (.string ⟨#[]⟩) (.int .i64 0) (.int .i64 0) (.string ⟨#[]⟩) (.int .i64 0) (.int .i64 0) (.string ⟨#[]⟩) (.int .i64 0) (.int .i64 0) (.string ⟨#[]⟩)); refine bodyPost_ret (results_list (rs := [.cell 4 50, .tmp 5, .tmp 6]) rfl (by simp) (.cell b4 50 #[.int .i64 0, .int .i64 0, .string (⟨#[]⟩ : ByteArray), .int .i64 0, .int .i64 0, .string (⟨#[]⟩ : ByteArray), .int .i64 0, .int .i64 0, .string (⟨#[]⟩ : ByteArray), .int .i64 0, .int .i64 0, .string (⟨#[]⟩ : ByteArray)] (0, 0) _ rfl HX5.out.s Tryd.underlying50 rfl (by kernel_rfl) (.tmp (.tmp .nil)))) rfl ?_
  exact ⟨rsl_, HX5.out.b⟩
end line_Four
end Go.Proofs.YtofdhdafabmhmaaDoor.Giv
end
