/- LineReadsSaid, part 10 of 13: contracts of the program's functions, the words that they use, and the plain laws on what they compute. Conditions: none beyond what the statements say. -/
import Derived.Test.YtofdhdafabmhmaaKLr0
import Derived.Test.YtofdhdafabmhmaaKLr1
import Derived.Test.YtofdhdafabmhmaaKLr2
import Derived.Test.YtofdhdafabmhmaaKLr7
import Derived.Test.YtofdhdafabmhmaaKLr8
set_option linter.unusedVariables false
set_option linter.unusedSimpArgs false
section
namespace Go.Proofs.Ytofdhdafabmhmaa.PLr
open Go.RowKit Go.Proofs.YtofdhdafabmhmaaW.PrintWords Go.Proofs.YtofdhdafabmhmaaW.PrintLast Go.Proofs.YtofdhdafabmhmaaW.PrintMore
attribute [local go_sem] max2_int min2_int max_two min_two max_three min_three max_four min_four
open Go.Proofs.Ytofdhdafabmhmaa.Opn Go.Proofs.Ytofdhdafabmhmaa.Giv
set_option maxRecDepth 100000

/-! ### r07_Read: function 7 -/
mutual
def r07_Read.j4 : Nat → List (S43) → Int → Int → Int → Int → Int → Int → Int → ByteArray → Option (Int × Int × ByteArray × Int × Int)
 | 0, _, _, _, _, _, _, _, _, _ => none
 | k + 1, x0, x1, x12, x13, x14, x15, x362000, x362001, x362002 => if x15 = x1 then (some (x362000, x362001, x362002, x1, 50)) else (if x13 ≥ 0 then (if 0 ≤ x13 then (if x13 < (x0.length : Int) then (r07_Read.j5 k x0 x12 x13 x14 x15 x362000 x362001 x362002 3 0 ((rd_T43 x0 x13).f2)) else (none)) else (none)) else (r07_Read.j5 k x0 x12 x13 x14 x15 x362000 x362001 x362002 3 0 (⟨#[]⟩ : ByteArray)))
def r07_Read.j5 : Nat → List (S43) → Int → Int → Int → Int → Int → Int → ByteArray → Int → Int → ByteArray → Option (Int × Int × ByteArray × Int × Int)
 | 0, _, _, _, _, _, _, _, _, _, _, _ => none
 | k + 1, x0, x12, x13, x14, x15, x362000, x362001, x362002, x374000, x374001, x374002 => if x12 ≥ 0 then ((r05_Integer.f k x0 x12).bind fun bt375 => (if bt375.2.2 = 0 then (if bt375.1 > 10000 then (r07_Read.j6 k x12 x13 x14 x15 bt375.1 true x362000 x362001 x362002 x374000 x374001 x374002) else (r07_Read.j6 k x12 x13 x14 x15 bt375.1 (decide (bt375.1 < (-10000))) x362000 x362001 x362002 x374000 x374001 x374002)) else (r07_Read.j6 k x12 x13 x14 x15 bt375.1 true x362000 x362001 x362002 x374000 x374001 x374002))) else (r07_Read.j7 k x12 x13 x14 x15 x362000 x362001 x362002 x374000 x374001 x374002)
def r07_Read.j7 : Nat → Int → Int → Int → Int → Int → Int → ByteArray → Int → Int → ByteArray → Option (Int × Int × ByteArray × Int × Int)
 | 0, _, _, _, _, _, _, _, _, _, _ => none
 | k + 1, x12, x13, x14, x15, x362000, x362001, x362002, x374000, x374001, x374002 => if x14 ≥ 0 then (if x12 < 0 then (r07_Read.j8 k x12 x15 (decide (x13 < 0)) x362000 x362001 x362002 x374000 x374001 x374002) else (r07_Read.j8 k x12 x15 false x362000 x362001 x362002 x374000 x374001 x374002)) else (some (x374000, x374001, x374002, x15, 0))
def r07_Read.j8 : Nat → Int → Int → Bool → Int → Int → ByteArray → Int → Int → ByteArray → Option (Int × Int × ByteArray × Int × Int)
 | 0, _, _, _, _, _, _, _, _, _ => none
 | k + 1, x12, x15, x136, x362000, x362001, x362002, x374000, x374001, x374002 => if x136 = true then (some (x362000, x362001, x362002, x15, 50)) else (if x12 < 0 then (some (4, 1, x374002, x15, 0)) else (some (4, x374001, x374002, x15, 0)))
def r07_Read.j6 : Nat → Int → Int → Int → Int → Int → Bool → Int → Int → ByteArray → Int → Int → ByteArray → Option (Int × Int × ByteArray × Int × Int)
 | 0, _, _, _, _, _, _, _, _, _, _, _, _ => none
 | k + 1, x12, x13, x14, x15, x18, x111, x362000, x362001, x362002, x374000, x374001, x374002 => if x111 = true then (some (x362000, x362001, x362002, x12, 52)) else (if x18 = 0 then (some (x362000, x362001, x362002, x12, 50)) else (if x18 < 0 then (if x14 ≥ 0 then (some (x362000, x362001, x362002, x12, 50)) else (r07_Read.j7 k x12 x13 x14 x15 x362000 x362001 x362002 2 x18 x374002)) else (r07_Read.j7 k x12 x13 x14 x15 x362000 x362001 x362002 2 x18 x374002)))
def r07_Read.l0 : Nat → List (S43) → Int → Int → Int → Int → Int → Int → Int → ByteArray → Option (Int × Int × ByteArray × Int × Int)
 | 0, _, _, _, _, _, _, _, _, _ => none
 | k + 1, x0, x1, x12, x13, x14, x15, x362000, x362001, x362002 => (r07_kind.f k x0 x15).bind fun t372 => (if t372 = 1 then (r07_Read.j1 k x0 x1 x12 x13 x14 x15 t372 (decide (x12 < 0)) x362000 x362001 x362002) else (r07_Read.j1 k x0 x1 x12 x13 x14 x15 t372 false x362000 x362001 x362002))
def r07_Read.j1 : Nat → List (S43) → Int → Int → Int → Int → Int → Int → Bool → Int → Int → ByteArray → Option (Int × Int × ByteArray × Int × Int)
 | 0, _, _, _, _, _, _, _, _, _, _, _ => none
 | k + 1, x0, x1, x12, x13, x14, x15, x16, x54, x362000, x362001, x362002 => if x54 = true then (if x16 = 3 then (if x14 > x1 then (r07_Read.j4 k x0 x1 x15 x13 x14 (wrap64 (x15 + 1)) x362000 x362001 x362002) else (r07_Read.l0 k x0 x1 x15 x13 x14 (wrap64 (x15 + 1)) x362000 x362001 x362002)) else (r07_Read.l0 k x0 x1 x15 x13 x14 (wrap64 (x15 + 1)) x362000 x362001 x362002)) else (if x16 = 2 then (r07_Read.j2 k x0 x1 x12 x13 x14 x15 x16 (decide (x13 < 0)) x362000 x362001 x362002) else (r07_Read.j2 k x0 x1 x12 x13 x14 x15 x16 false x362000 x362001 x362002))
def r07_Read.j2 : Nat → List (S43) → Int → Int → Int → Int → Int → Int → Bool → Int → Int → ByteArray → Option (Int × Int × ByteArray × Int × Int)
 | 0, _, _, _, _, _, _, _, _, _, _, _ => none
 | k + 1, x0, x1, x12, x13, x14, x15, x16, x61, x362000, x362001, x362002 => if x61 = true then (if x16 = 3 then (if x14 > x1 then (r07_Read.j4 k x0 x1 x12 x15 x14 (wrap64 (x15 + 1)) x362000 x362001 x362002) else (r07_Read.l0 k x0 x1 x12 x15 x14 (wrap64 (x15 + 1)) x362000 x362001 x362002)) else (r07_Read.l0 k x0 x1 x12 x15 x14 (wrap64 (x15 + 1)) x362000 x362001 x362002)) else (if x16 = 3 then (r07_Read.j3 k x0 x1 x12 x13 x14 x15 x16 (decide (x14 < 0)) x362000 x362001 x362002) else (r07_Read.j3 k x0 x1 x12 x13 x14 x15 x16 false x362000 x362001 x362002))
def r07_Read.j3 : Nat → List (S43) → Int → Int → Int → Int → Int → Int → Bool → Int → Int → ByteArray → Option (Int × Int × ByteArray × Int × Int)
 | 0, _, _, _, _, _, _, _, _, _, _, _ => none
 | k + 1, x0, x1, x12, x13, x14, x15, x16, x68, x362000, x362001, x362002 => if x68 = true then (if x16 = 3 then (if x15 > x1 then (r07_Read.j4 k x0 x1 x12 x13 x15 (wrap64 (x15 + 1)) x362000 x362001 x362002) else (r07_Read.l0 k x0 x1 x12 x13 x15 (wrap64 (x15 + 1)) x362000 x362001 x362002)) else (r07_Read.l0 k x0 x1 x12 x13 x15 (wrap64 (x15 + 1)) x362000 x362001 x362002)) else (r07_Read.j4 k x0 x1 x12 x13 x14 x15 x362000 x362001 x362002)
end
def r07_Read.f (k : Nat) (l0 : List (S43)) (a1 : Int) : Option (Int × Int × ByteArray × Int × Int) := (r05_Keyword.f k l0 a1 (([(⟨#[97, 117, 116, 111]⟩ : ByteArray)] : List ByteArray))).bind fun bt365 => (if bt365.2 > a1 then (some (1, 0, (⟨#[]⟩ : ByteArray), bt365.2, 0)) else ((r05_Keyword.f k l0 a1 (([(⟨#[105, 110, 104, 101, 114, 105, 116]⟩ : ByteArray), (⟨#[105, 110, 105, 116, 105, 97, 108]⟩ : ByteArray), (⟨#[117, 110, 115, 101, 116]⟩ : ByteArray), (⟨#[114, 101, 118, 101, 114, 116]⟩ : ByteArray)] : List ByteArray))).bind fun bt370 => (if bt370.1 ≥ 0 then (some (0, 0, (⟨#[]⟩ : ByteArray), a1, 51)) else (r07_Read.l0 k l0 a1 (-1) (-1) (-1) a1 0 0 (⟨#[]⟩ : ByteArray)))))
theorem r07_Read.mono_l : ∀ k, (∀ y0 y1 y2 y3 y4 y5 y6 y7 y8, LeO (r07_Read.j4 k y0 y1 y2 y3 y4 y5 y6 y7 y8) (r07_Read.j4 (k + 1) y0 y1 y2 y3 y4 y5 y6 y7 y8)) ∧ (∀ y0 y1 y2 y3 y4 y5 y6 y7 y8 y9 y10, LeO (r07_Read.j5 k y0 y1 y2 y3 y4 y5 y6 y7 y8 y9 y10) (r07_Read.j5 (k + 1) y0 y1 y2 y3 y4 y5 y6 y7 y8 y9 y10)) ∧ (∀ y0 y1 y2 y3 y4 y5 y6 y7 y8 y9, LeO (r07_Read.j7 k y0 y1 y2 y3 y4 y5 y6 y7 y8 y9) (r07_Read.j7 (k + 1) y0 y1 y2 y3 y4 y5 y6 y7 y8 y9)) ∧ (∀ y0 y1 y2 y3 y4 y5 y6 y7 y8, LeO (r07_Read.j8 k y0 y1 y2 y3 y4 y5 y6 y7 y8) (r07_Read.j8 (k + 1) y0 y1 y2 y3 y4 y5 y6 y7 y8)) ∧ (∀ y0 y1 y2 y3 y4 y5 y6 y7 y8 y9 y10 y11, LeO (r07_Read.j6 k y0 y1 y2 y3 y4 y5 y6 y7 y8 y9 y10 y11) (r07_Read.j6 (k + 1) y0 y1 y2 y3 y4 y5 y6 y7 y8 y9 y10 y11)) ∧ (∀ y0 y1 y2 y3 y4 y5 y6 y7 y8, LeO (r07_Read.l0 k y0 y1 y2 y3 y4 y5 y6 y7 y8) (r07_Read.l0 (k + 1) y0 y1 y2 y3 y4 y5 y6 y7 y8)) ∧ (∀ y0 y1 y2 y3 y4 y5 y6 y7 y8 y9 y10, LeO (r07_Read.j1 k y0 y1 y2 y3 y4 y5 y6 y7 y8 y9 y10) (r07_Read.j1 (k + 1) y0 y1 y2 y3 y4 y5 y6 y7 y8 y9 y10)) ∧ (∀ y0 y1 y2 y3 y4 y5 y6 y7 y8 y9 y10, LeO (r07_Read.j2 k y0 y1 y2 y3 y4 y5 y6 y7 y8 y9 y10) (r07_Read.j2 (k + 1) y0 y1 y2 y3 y4 y5 y6 y7 y8 y9 y10)) ∧ (∀ y0 y1 y2 y3 y4 y5 y6 y7 y8 y9 y10, LeO (r07_Read.j3 k y0 y1 y2 y3 y4 y5 y6 y7 y8 y9 y10) (r07_Read.j3 (k + 1) y0 y1 y2 y3 y4 y5 y6 y7 y8 y9 y10))
 | 0 => ⟨fun _ _ _ _ _ _ _ _ _ r h => by simp [r07_Read.j4] at h, fun _ _ _ _ _ _ _ _ _ _ _ r h => by simp [r07_Read.j5] at h, fun _ _ _ _ _ _ _ _ _ _ r h => by simp [r07_Read.j7] at h, fun _ _ _ _ _ _ _ _ _ r h => by simp [r07_Read.j8] at h, fun _ _ _ _ _ _ _ _ _ _ _ _ r h => by simp [r07_Read.j6] at h, fun _ _ _ _ _ _ _ _ _ r h => by simp [r07_Read.l0] at h, fun _ _ _ _ _ _ _ _ _ _ _ r h => by simp [r07_Read.j1] at h, fun _ _ _ _ _ _ _ _ _ _ _ r h => by simp [r07_Read.j2] at h, fun _ _ _ _ _ _ _ _ _ _ _ r h => by simp [r07_Read.j3] at h⟩
 | k + 1 => by
  obtain ⟨ih0, ih1, ih2, ih3, ih4, ih5, ih6, ih7, ih8⟩ := r07_Read.mono_l k; refine ⟨?_, ?_, ?_, ?_, ?_, ?_, ?_, ?_, ?_⟩
  ·intro y0 y1 y2 y3 y4 y5 y6 y7 y8; unfold r07_Read.j4; repeat' first
   | (with_reducible exact ih0 _ _ _ _ _ _ _ _ _)
   | (with_reducible exact ih1 _ _ _ _ _ _ _ _ _ _ _)
   | (with_reducible exact ih2 _ _ _ _ _ _ _ _ _ _)
   | (with_reducible exact ih3 _ _ _ _ _ _ _ _ _)
   | (with_reducible exact ih4 _ _ _ _ _ _ _ _ _ _ _ _)
   | (with_reducible exact ih5 _ _ _ _ _ _ _ _ _)
   | (with_reducible exact ih6 _ _ _ _ _ _ _ _ _ _ _)
   | (with_reducible exact ih7 _ _ _ _ _ _ _ _ _ _ _)
   | (with_reducible exact ih8 _ _ _ _ _ _ _ _ _ _ _)
   | (with_reducible exact r05_Integer.mono _ _ _)
   | (with_reducible exact r05_Keyword.mono _ _ _ _)
   | (with_reducible exact r07_kind.mono _ _ _)
   | (with_reducible first | exact LeO.refl _ | exact LeO.none _ | refine LeO.ite ?_ ?_ | refine LeO.bind ?_ (fun _ => ?_))
  ·intro y0 y1 y2 y3 y4 y5 y6 y7 y8 y9 y10; unfold r07_Read.j5; repeat' first
   | (with_reducible exact ih0 _ _ _ _ _ _ _ _ _)
   | (with_reducible exact ih1 _ _ _ _ _ _ _ _ _ _ _)
   | (with_reducible exact ih2 _ _ _ _ _ _ _ _ _ _)
   | (with_reducible exact ih3 _ _ _ _ _ _ _ _ _)
   | (with_reducible exact ih4 _ _ _ _ _ _ _ _ _ _ _ _)
   | (with_reducible exact ih5 _ _ _ _ _ _ _ _ _)
   | (with_reducible exact ih6 _ _ _ _ _ _ _ _ _ _ _)
   | (with_reducible exact ih7 _ _ _ _ _ _ _ _ _ _ _)
   | (with_reducible exact ih8 _ _ _ _ _ _ _ _ _ _ _)
   | (with_reducible exact r05_Integer.mono _ _ _)
   | (with_reducible exact r05_Keyword.mono _ _ _ _)
   | (with_reducible exact r07_kind.mono _ _ _)
   | (with_reducible first | exact LeO.refl _ | exact LeO.none _ | refine LeO.ite ?_ ?_ | refine LeO.bind ?_ (fun _ => ?_))
  ·intro y0 y1 y2 y3 y4 y5 y6 y7 y8 y9; unfold r07_Read.j7; repeat' first
   | (with_reducible exact ih0 _ _ _ _ _ _ _ _ _)
   | (with_reducible exact ih1 _ _ _ _ _ _ _ _ _ _ _)
   | (with_reducible exact ih2 _ _ _ _ _ _ _ _ _ _)
   | (with_reducible exact ih3 _ _ _ _ _ _ _ _ _)
   | (with_reducible exact ih4 _ _ _ _ _ _ _ _ _ _ _ _)
   | (with_reducible exact ih5 _ _ _ _ _ _ _ _ _)
   | (with_reducible exact ih6 _ _ _ _ _ _ _ _ _ _ _)
   | (with_reducible exact ih7 _ _ _ _ _ _ _ _ _ _ _)
   | (with_reducible exact ih8 _ _ _ _ _ _ _ _ _ _ _)
   | (with_reducible exact r05_Integer.mono _ _ _)
   | (with_reducible exact r05_Keyword.mono _ _ _ _)
   | (with_reducible exact r07_kind.mono _ _ _)
   | (with_reducible first | exact LeO.refl _ | exact LeO.none _ | refine LeO.ite ?_ ?_ | refine LeO.bind ?_ (fun _ => ?_))
  ·intro y0 y1 y2 y3 y4 y5 y6 y7 y8; unfold r07_Read.j8; repeat' first
   | (with_reducible exact ih0 _ _ _ _ _ _ _ _ _)
   | (with_reducible exact ih1 _ _ _ _ _ _ _ _ _ _ _)
   | (with_reducible exact ih2 _ _ _ _ _ _ _ _ _ _)
   | (with_reducible exact ih3 _ _ _ _ _ _ _ _ _)
   | (with_reducible exact ih4 _ _ _ _ _ _ _ _ _ _ _ _)
   | (with_reducible exact ih5 _ _ _ _ _ _ _ _ _)
   | (with_reducible exact ih6 _ _ _ _ _ _ _ _ _ _ _)
   | (with_reducible exact ih7 _ _ _ _ _ _ _ _ _ _ _)
   | (with_reducible exact ih8 _ _ _ _ _ _ _ _ _ _ _)
   | (with_reducible exact r05_Integer.mono _ _ _)
   | (with_reducible exact r05_Keyword.mono _ _ _ _)
   | (with_reducible exact r07_kind.mono _ _ _)
   | (with_reducible first | exact LeO.refl _ | exact LeO.none _ | refine LeO.ite ?_ ?_ | refine LeO.bind ?_ (fun _ => ?_))
  ·intro y0 y1 y2 y3 y4 y5 y6 y7 y8 y9 y10 y11; unfold r07_Read.j6; repeat' first
   | (with_reducible exact ih0 _ _ _ _ _ _ _ _ _)
   | (with_reducible exact ih1 _ _ _ _ _ _ _ _ _ _ _)
   | (with_reducible exact ih2 _ _ _ _ _ _ _ _ _ _)
   | (with_reducible exact ih3 _ _ _ _ _ _ _ _ _)
   | (with_reducible exact ih4 _ _ _ _ _ _ _ _ _ _ _ _)
   | (with_reducible exact ih5 _ _ _ _ _ _ _ _ _)
   | (with_reducible exact ih6 _ _ _ _ _ _ _ _ _ _ _)
   | (with_reducible exact ih7 _ _ _ _ _ _ _ _ _ _ _)
   | (with_reducible exact ih8 _ _ _ _ _ _ _ _ _ _ _)
   | (with_reducible exact r05_Integer.mono _ _ _)
   | (with_reducible exact r05_Keyword.mono _ _ _ _)
   | (with_reducible exact r07_kind.mono _ _ _)
   | (with_reducible first | exact LeO.refl _ | exact LeO.none _ | refine LeO.ite ?_ ?_ | refine LeO.bind ?_ (fun _ => ?_))
  ·intro y0 y1 y2 y3 y4 y5 y6 y7 y8; unfold r07_Read.l0; repeat' first
   | (with_reducible exact ih0 _ _ _ _ _ _ _ _ _)
   | (with_reducible exact ih1 _ _ _ _ _ _ _ _ _ _ _)
   | (with_reducible exact ih2 _ _ _ _ _ _ _ _ _ _)
   | (with_reducible exact ih3 _ _ _ _ _ _ _ _ _)
   | (with_reducible exact ih4 _ _ _ _ _ _ _ _ _ _ _ _)
   | (with_reducible exact ih5 _ _ _ _ _ _ _ _ _)
   | (with_reducible exact ih6 _ _ _ _ _ _ _ _ _ _ _)
   | (with_reducible exact ih7 _ _ _ _ _ _ _ _ _ _ _)
   | (with_reducible exact ih8 _ _ _ _ _ _ _ _ _ _ _)
   | (with_reducible exact r05_Integer.mono _ _ _)
   | (with_reducible exact r05_Keyword.mono _ _ _ _)
   | (with_reducible exact r07_kind.mono _ _ _)
   | (with_reducible first | exact LeO.refl _ | exact LeO.none _ | refine LeO.ite ?_ ?_ | refine LeO.bind ?_ (fun _ => ?_))
  ·intro y0 y1 y2 y3 y4 y5 y6 y7 y8 y9 y10; unfold r07_Read.j1; repeat' first
   | (with_reducible exact ih0 _ _ _ _ _ _ _ _ _)
   | (with_reducible exact ih1 _ _ _ _ _ _ _ _ _ _ _)
   | (with_reducible exact ih2 _ _ _ _ _ _ _ _ _ _)
   | (with_reducible exact ih3 _ _ _ _ _ _ _ _ _)
   | (with_reducible exact ih4 _ _ _ _ _ _ _ _ _ _ _ _)
   | (with_reducible exact ih5 _ _ _ _ _ _ _ _ _)
   | (with_reducible exact ih6 _ _ _ _ _ _ _ _ _ _ _)
   | (with_reducible exact ih7 _ _ _ _ _ _ _ _ _ _ _)
   | (with_reducible exact ih8 _ _ _ _ _ _ _ _ _ _ _)
   | (with_reducible exact r05_Integer.mono _ _ _)
   | (with_reducible exact r05_Keyword.mono _ _ _ _)
   | (with_reducible exact r07_kind.mono _ _ _)
   | (with_reducible first | exact LeO.refl _ | exact LeO.none _ | refine LeO.ite ?_ ?_ | refine LeO.bind ?_ (fun _ => ?_))
  ·intro y0 y1 y2 y3 y4 y5 y6 y7 y8 y9 y10; unfold r07_Read.j2; repeat' first
   | (with_reducible exact ih0 _ _ _ _ _ _ _ _ _)
   | (with_reducible exact ih1 _ _ _ _ _ _ _ _ _ _ _)
   | (with_reducible exact ih2 _ _ _ _ _ _ _ _ _ _)
   | (with_reducible exact ih3 _ _ _ _ _ _ _ _ _)
   | (with_reducible exact ih4 _ _ _ _ _ _ _ _ _ _ _ _)
   | (with_reducible exact ih5 _ _ _ _ _ _ _ _ _)
   | (with_reducible exact ih6 _ _ _ _ _ _ _ _ _ _ _)
   | (with_reducible exact ih7 _ _ _ _ _ _ _ _ _ _ _)
   | (with_reducible exact ih8 _ _ _ _ _ _ _ _ _ _ _)
   | (with_reducible exact r05_Integer.mono _ _ _)
   | (with_reducible exact r05_Keyword.mono _ _ _ _)
   | (with_reducible exact r07_kind.mono _ _ _)
   | (with_reducible first | exact LeO.refl _ | exact LeO.none _ | refine LeO.ite ?_ ?_ | refine LeO.bind ?_ (fun _ => ?_))
  intro y0 y1 y2 y3 y4 y5 y6 y7 y8 y9 y10; unfold r07_Read.j3; repeat' first
  | (with_reducible exact ih0 _ _ _ _ _ _ _ _ _)
  | (with_reducible exact ih1 _ _ _ _ _ _ _ _ _ _ _)
  | (with_reducible exact ih2 _ _ _ _ _ _ _ _ _ _)
  | (with_reducible exact ih3 _ _ _ _ _ _ _ _ _)
  | (with_reducible exact ih4 _ _ _ _ _ _ _ _ _ _ _ _)
  | (with_reducible exact ih5 _ _ _ _ _ _ _ _ _)
  | (with_reducible exact ih6 _ _ _ _ _ _ _ _ _ _ _)
  | (with_reducible exact ih7 _ _ _ _ _ _ _ _ _ _ _)
  | (with_reducible exact ih8 _ _ _ _ _ _ _ _ _ _ _)
  | (with_reducible exact r05_Integer.mono _ _ _)
  | (with_reducible exact r05_Keyword.mono _ _ _ _)
  | (with_reducible exact r07_kind.mono _ _ _)
  | (with_reducible first | exact LeO.refl _ | exact LeO.none _ | refine LeO.ite ?_ ?_ | refine LeO.bind ?_ (fun _ => ?_))
theorem r07_Read.mono : ∀ a0 a1 k, LeO (r07_Read.f k a0 a1) (r07_Read.f (k + 1) a0 a1) := by
 intro a0 a1 k; obtain ⟨ih0, ih1, ih2, ih3, ih4, ih5, ih6, ih7, ih8⟩ := r07_Read.mono_l k; unfold r07_Read.f; repeat' first
   | (with_reducible exact ih0 _ _ _ _ _ _ _ _ _)
   | (with_reducible exact ih1 _ _ _ _ _ _ _ _ _ _ _)
   | (with_reducible exact ih2 _ _ _ _ _ _ _ _ _ _)
   | (with_reducible exact ih3 _ _ _ _ _ _ _ _ _)
   | (with_reducible exact ih4 _ _ _ _ _ _ _ _ _ _ _ _)
   | (with_reducible exact ih5 _ _ _ _ _ _ _ _ _)
   | (with_reducible exact ih6 _ _ _ _ _ _ _ _ _ _ _)
   | (with_reducible exact ih7 _ _ _ _ _ _ _ _ _ _ _)
   | (with_reducible exact ih8 _ _ _ _ _ _ _ _ _ _ _)
   | (with_reducible exact r05_Integer.mono _ _ _)
   | (with_reducible exact r05_Keyword.mono _ _ _ _)
   | (with_reducible exact r07_kind.mono _ _ _)
   | (with_reducible first | exact LeO.refl _ | exact LeO.none _ | refine LeO.ite ?_ ?_ | refine LeO.bind ?_ (fun _ => ?_))
set_option maxHeartbeats 8000000 in
theorem r07_Read.calls (k : Nat) (A0 : Option Addr) (c0 : Nat) (l0 : List (S43)) (a1 : Int) (r1 : Int) (r2 : Int) (r3 : ByteArray) (r4 : Int) (r5 : Int) (w : World) (hr0 : Kd.C k43 w A0 l0.length l0) (hc0 : l0.length ≤ c0) (h : r07_Read.f k l0 a1 = some (r1, r2, r3, r4, r5)) :
  Calls Try.prog 7 #[.slice A0 l0.length c0, .int .i64 a1] w fun e w' => e = .returned (.tuple #[.agg #[.int .i64 r1, .int .i64 r2, .string r3], .int .i64 r4, .int .i64 r5]) ∧ Below w.heap.size w w' := by
 have hu26 := Try.underlying26; have HR0 := am_ hr0; have HC0 := am_ hc0; clear hr0 hc0; have HB := am_ (Below.refl w.heap.size w); have H : ((r05_Keyword.f k l0 a1 (([(⟨#[97, 117, 116, 111]⟩ : ByteArray)] : List ByteArray))).bind fun bt365 => (if bt365.2 > a1 then (some (1, 0, (⟨#[]⟩ : ByteArray), bt365.2, 0)) else ((r05_Keyword.f k l0 a1 (([(⟨#[105, 110, 104, 101, 114, 105, 116]⟩ : ByteArray), (⟨#[105, 110, 105, 116, 105, 97, 108]⟩ : ByteArray), (⟨#[117, 110, 115, 101, 116]⟩ : ByteArray), (⟨#[114, 101, 118, 101, 114, 116]⟩ : ByteArray)] : List ByteArray))).bind fun bt370 => (if bt370.1 ≥ 0 then (some (0, 0, (⟨#[]⟩ : ByteArray), a1, 51)) else (r07_Read.l0 k l0 a1 (-1) (-1) (-1) a1 0 0 (⟨#[]⟩ : ByteArray)))))) = some (r1, r2, r3, r4, r5) := h; clear h; obtain ⟨y362, hy362⟩ : ∃ y_ : List ByteArray, y_ = (([(⟨#[97, 117, 116, 111]⟩ : ByteArray)] : List ByteArray)) := ⟨_, rfl⟩
 replace H : ((r05_Keyword.f k l0 a1 y362).bind fun bt365 => (if bt365.2 > a1 then (some (1, 0, (⟨#[]⟩ : ByteArray), bt365.2, 0)) else ((r05_Keyword.f k l0 a1 (([(⟨#[105, 110, 104, 101, 114, 105, 116]⟩ : ByteArray), (⟨#[105, 110, 105, 116, 105, 97, 108]⟩ : ByteArray), (⟨#[117, 110, 115, 101, 116]⟩ : ByteArray), (⟨#[114, 101, 118, 101, 114, 116]⟩ : ByteArray)] : List ByteArray))).bind fun bt370 => (if bt370.1 ≥ 0 then (some (0, 0, (⟨#[]⟩ : ByteArray), a1, 51)) else (r07_Read.l0 k l0 a1 (-1) (-1) (-1) a1 0 0 (⟨#[]⟩ : ByteArray)))))) = some (r1, r2, r3, r4, r5) := by first | (rw [hy362]; with_reducible exact H) | (have H2_ := (Option.bind_some _ _).symm.trans H; rw [hy362]; with_reducible exact H2_) | (have H2_ := (Option.bind_some _ _).symm.trans H; with_reducible exact H2_) | with_reducible exact H | (rw [hy362]; exact H) | exact H
 have Ny362 := am_ hy362; clear hy362; replace H := bs_ H; obtain ⟨⟨t365, t366⟩, A30, H⟩ := H; try dsimp only at H
 have A3 := am_ A30; clear A30; by_cases c4 : t366 > a1
 ·rw [if_pos c4] at H; have c4b0 : decide (a1 < t366) = true := dt_ c4; clear c4; simp only [Option.some.injEq, Prod.mk.injEq] at H; obtain ⟨rfl, rfl, rfl, rfl, rfl⟩ := H; go_enter Try.func7, Try.ntmps7
  go_wp2_with (first | ((with_reducible refine gate_dst (N := 4) rfl ?_); refine box_event ?hg (N := 4) ?hd (cs := #[.int .i64 0, .int .i64 0, .string (⟨#[]⟩ : ByteArray)]) (t := 26) ?hr ?_; (case hd => rfl); (case hg => rfl); (case hr => first | (go_simp; done) | (go_simp; rfl)); intro gb360 hg w5 hbox hb; have BK360 := am_ (hbox); have GW360 := am_ ((bsz_ hg : w.heap.size ≤ gb360)); have GE360 := am_ ((bsz_ hg : w.heap.size ≤ gb360)); replace HB := am_ (below_step bel_ hb); clear hb hbox hg) | ((with_reducible refine gate_dst (N := 7) rfl ?_); refine box_event ?hg (N := 7) ?hd (cs := #[.int .i64 0, .int .i64 0, .string (⟨#[]⟩ : ByteArray)]) (t := 26) ?hr ?_; (case hd => rfl); (case hg => rfl); (case hr => first | (go_simp; done) | (go_simp; rfl)); intro gb361 hg w6 hbox hb; have BK361 := am_ (hbox); have GW361 := am_ ((bsz_ hg : w.heap.size ≤ gb361)); have GE361 := am_ ((bsz_ hg : w.heap.size ≤ gb361)); have NB360_361 := am_ (bne_ BK360 hg : gb360 ≠ gb361); have NB361_360 := am_ (bng_ BK360 hg : gb361 ≠ gb360); replace BK360 := blb_ BK360 hb; replace HB := am_ (below_step bel_ hb); clear hb hbox hg; have hnb7 := NB361_360.out; have hnc7 := NB360_361.out; obtain ⟨hcz8_0, hcz8_1, hcz8_2⟩ := c3_ BK361; obtain ⟨hfz8_0, hfz8_1, hfz8_2⟩ := f3_ BK361) | ((with_reducible refine gate_dst (N := 25) rfl ?_); refine Kd.R_lit Kd.string _ 9 ?hg (N := 25) ?hd (xs := ([(⟨#[97, 117, 116, 111]⟩ : ByteArray)] : List ByteArray)) (inner := [.string (⟨#[97, 117, 116, 111]⟩ : ByteArray)]) (ok := fun _ => True) (okp := fun _ => True) ?hr ?hp (fun _ hk => hk) trivial (Below.refl _ _) (Nat.le_refl _) (by simp) ?_; (case hd => rfl); (case hg => rfl); (case hr => first | (go_simp; done) | (go_simp; rfl)); (case hp => exact (Reps.one (show Kd.M Kd.string _ _ _ (⟨#[97, 117, 116, 111]⟩ : ByteArray) [.string (⟨#[97, 117, 116, 111]⟩ : ByteArray)] from rfl) (Reps.none _ _))); intro v363 w9 ho10 hb hg_ hnew_; clear hg_ hnew_; (first | rw [← Ny362.out] at ho10 | (simp only [Int.reduceToNat] at ho10; rw [← Ny362.out] at ho10)); have HO364 := am_ (Kd.R_lower ho10 (below_size bel_)); replace BK360 := am_ (blk_below (g := gb360) (o := .cells #[.int .i64 0, .int .i64 0, .string (⟨#[]⟩ : ByteArray)] 26 (0, 0)) (bch_) hb); replace BK361 := am_ (blk_below (g := gb361) (o := .cells #[.int .i64 0, .int .i64 0, .string (⟨#[]⟩ : ByteArray)] 26 (0, 0)) (bch_) hb); replace HB := am_ (below_step bel_ hb); clear hb ho10; obtain ⟨Ao11, co11, eo11⟩ := Kd.R_slice HO364.out; subst eo11) | ((with_reducible refine gate_callee (f := 20) rfl ?_); refine goesL_ (some 26) rfl rfl Try.func20 (by kernel_rfl) rfl #[.slice A0 l0.length c0, .int .i64 a1, .slice Ao11 y362.length co11] rfl goa_ ?_; (with_reducible refine (r05_Keyword.calls k _ _ l0 a1 _ _ y362 t365 t366 _ ?side1 ?side2 ?side3 ?side4 A3.out).mono ?_); (case side1 => exact cin_); (case side2 => exact HC0.out); (case side3 => repeat (first | exact (Kd.R_reads' HO364.out).2.2 | (with_reducible refine Kd.C_alloc ?_ _) | (with_reducible refine Kd.C_drewN ?_ _) | (with_reducible refine Kd.C_drew ?_))); (case side4 => exact (Kd.R_reads' HO364.out).2.1); rintro e w12 ⟨rfl, hb⟩; refine ⟨_, rfl, ?_⟩; replace HO364 := am_ (Kd.R_below (row_ HO364) hb); replace BK360 := blb_ BK360 hb; replace BK361 := blb_ BK361 hb; replace HB := am_ (below_step bel_ hb); clear hb; obtain ⟨hcz13_0, hcz13_1, hcz13_2⟩ := c3_ BK360; obtain ⟨hfz13_0, hfz13_1, hfz13_2⟩ := f3_ BK360))
  refine bodyPost_ret (results_ctt rfl _ _ gb360 26 #[.int .i64 1, .int .i64 0, .string (⟨#[]⟩ : ByteArray)] (0, 0) _ rfl (bch_) Try.underlying26 rfl (by kernel_rfl)) rfl ?_
  exact ⟨rsl_, bel_⟩
 rw [if_neg c4] at H; have c4b0 : decide (a1 < t366) = false := df_ c4; clear c4; obtain ⟨y367, hy367⟩ : ∃ y_ : List ByteArray, y_ = (([(⟨#[105, 110, 104, 101, 114, 105, 116]⟩ : ByteArray), (⟨#[105, 110, 105, 116, 105, 97, 108]⟩ : ByteArray), (⟨#[117, 110, 115, 101, 116]⟩ : ByteArray), (⟨#[114, 101, 118, 101, 114, 116]⟩ : ByteArray)] : List ByteArray)) := ⟨_, rfl⟩
 replace H : ((r05_Keyword.f k l0 a1 y367).bind fun bt370 => (if bt370.1 ≥ 0 then (some (0, 0, (⟨#[]⟩ : ByteArray), a1, 51)) else (r07_Read.l0 k l0 a1 (-1) (-1) (-1) a1 0 0 (⟨#[]⟩ : ByteArray)))) = some (r1, r2, r3, r4, r5) := by first | (rw [hy367]; with_reducible exact H) | (have H2_ := (Option.bind_some _ _).symm.trans H; rw [hy367]; with_reducible exact H2_) | (have H2_ := (Option.bind_some _ _).symm.trans H; with_reducible exact H2_) | with_reducible exact H | (rw [hy367]; exact H) | exact H
 have Ny367 := am_ hy367; clear hy367; replace H := bs_ H; obtain ⟨⟨t370, t371⟩, A140, H⟩ := H; try dsimp only at H
 have A14 := am_ A140; clear A140; by_cases c15 : t370 ≥ 0
 ·rw [if_pos c15] at H; have c15b0 : decide (0 ≤ t370) = true := dt_ c15; clear c15; simp only [Option.some.injEq, Prod.mk.injEq] at H; obtain ⟨rfl, rfl, rfl, rfl, rfl⟩ := H; go_enter Try.func7, Try.ntmps7
  go_wp2_with (first | ((with_reducible refine gate_dst (N := 4) rfl ?_); refine box_event ?hg (N := 4) ?hd (cs := #[.int .i64 0, .int .i64 0, .string (⟨#[]⟩ : ByteArray)]) (t := 26) ?hr ?_; (case hd => rfl); (case hg => rfl); (case hr => first | (go_simp; done) | (go_simp; rfl)); intro gb360 hg w16 hbox hb; have BK360 := am_ (hbox); have GW360 := am_ ((bsz_ hg : w.heap.size ≤ gb360)); have GE360 := am_ ((bsz_ hg : w.heap.size ≤ gb360)); replace HB := am_ (below_step bel_ hb); clear hb hbox hg) | ((with_reducible refine gate_dst (N := 7) rfl ?_); refine box_event ?hg (N := 7) ?hd (cs := #[.int .i64 0, .int .i64 0, .string (⟨#[]⟩ : ByteArray)]) (t := 26) ?hr ?_; (case hd => rfl); (case hg => rfl); (case hr => first | (go_simp; done) | (go_simp; rfl)); intro gb361 hg w17 hbox hb; have BK361 := am_ (hbox); have GW361 := am_ ((bsz_ hg : w.heap.size ≤ gb361)); have GE361 := am_ ((bsz_ hg : w.heap.size ≤ gb361)); have NB360_361 := am_ (bne_ BK360 hg : gb360 ≠ gb361); have NB361_360 := am_ (bng_ BK360 hg : gb361 ≠ gb360); replace BK360 := blb_ BK360 hb; replace HB := am_ (below_step bel_ hb); clear hb hbox hg; have hnb18 := NB361_360.out; have hnc18 := NB360_361.out; obtain ⟨hcz19_0, hcz19_1, hcz19_2⟩ := c3_ BK361; obtain ⟨hfz19_0, hfz19_1, hfz19_2⟩ := f3_ BK361) | ((with_reducible refine gate_dst (N := 25) rfl ?_); refine Kd.R_lit Kd.string _ 9 ?hg (N := 25) ?hd (xs := ([(⟨#[97, 117, 116, 111]⟩ : ByteArray)] : List ByteArray)) (inner := [.string (⟨#[97, 117, 116, 111]⟩ : ByteArray)]) (ok := fun _ => True) (okp := fun _ => True) ?hr ?hp (fun _ hk => hk) trivial (Below.refl _ _) (Nat.le_refl _) (by simp) ?_; (case hd => rfl); (case hg => rfl); (case hr => first | (go_simp; done) | (go_simp; rfl)); (case hp => exact (Reps.one (show Kd.M Kd.string _ _ _ (⟨#[97, 117, 116, 111]⟩ : ByteArray) [.string (⟨#[97, 117, 116, 111]⟩ : ByteArray)] from rfl) (Reps.none _ _))); intro v363 w20 ho21 hb hg_ hnew_; clear hg_ hnew_; (first | rw [← Ny362.out] at ho21 | (simp only [Int.reduceToNat] at ho21; rw [← Ny362.out] at ho21)); have HO364 := am_ (Kd.R_lower ho21 (below_size bel_)); replace BK360 := am_ (blk_below (g := gb360) (o := .cells #[.int .i64 0, .int .i64 0, .string (⟨#[]⟩ : ByteArray)] 26 (0, 0)) (bch_) hb); replace BK361 := am_ (blk_below (g := gb361) (o := .cells #[.int .i64 0, .int .i64 0, .string (⟨#[]⟩ : ByteArray)] 26 (0, 0)) (bch_) hb); replace HB := am_ (below_step bel_ hb); clear hb ho21; obtain ⟨Ao22, co22, eo22⟩ := Kd.R_slice HO364.out; subst eo22) | ((with_reducible refine gate_callee (f := 20) rfl ?_); refine goesL_ (some 26) rfl rfl Try.func20 (by kernel_rfl) rfl #[.slice A0 l0.length c0, .int .i64 a1, .slice Ao22 y362.length co22] rfl goa_ ?_; (with_reducible refine (r05_Keyword.calls k _ _ l0 a1 _ _ y362 t365 t366 _ ?side1 ?side2 ?side3 ?side4 A3.out).mono ?_); (case side1 => exact cin_); (case side2 => exact HC0.out); (case side3 => repeat (first | exact (Kd.R_reads' HO364.out).2.2 | (with_reducible refine Kd.C_alloc ?_ _) | (with_reducible refine Kd.C_drewN ?_ _) | (with_reducible refine Kd.C_drew ?_))); (case side4 => exact (Kd.R_reads' HO364.out).2.1); rintro e w23 ⟨rfl, hb⟩; refine ⟨_, rfl, ?_⟩; replace HO364 := am_ (Kd.R_below (row_ HO364) hb); replace BK360 := blb_ BK360 hb; replace BK361 := blb_ BK361 hb; replace HB := am_ (below_step bel_ hb); clear hb) | ((with_reducible refine gate_dst (N := 37) rfl ?_); refine Kd.R_lit Kd.string _ 9 ?hg (N := 37) ?hd (xs := ([(⟨#[105, 110, 104, 101, 114, 105, 116]⟩ : ByteArray), (⟨#[105, 110, 105, 116, 105, 97, 108]⟩ : ByteArray), (⟨#[117, 110, 115, 101, 116]⟩ : ByteArray), (⟨#[114, 101, 118, 101, 114, 116]⟩ : ByteArray)] : List ByteArray)) (inner := [.string (⟨#[105, 110, 104, 101, 114, 105, 116]⟩ : ByteArray), .string (⟨#[105, 110, 105, 116, 105, 97, 108]⟩ : ByteArray), .string (⟨#[117, 110, 115, 101, 116]⟩ : ByteArray), .string (⟨#[114, 101, 118, 101, 114, 116]⟩ : ByteArray)]) (ok := fun _ => True) (okp := fun _ => True) ?hr ?hp (fun _ hk => hk) trivial (Below.refl _ _) (Nat.le_refl _) (by simp) ?_; (case hd => rfl); (case hg => rfl); (case hr => first | (go_simp; done) | (go_simp; rfl)); (case hp => exact (Reps.one (show Kd.M Kd.string _ _ _ (⟨#[105, 110, 104, 101, 114, 105, 116]⟩ : ByteArray) [.string (⟨#[105, 110, 104, 101, 114, 105, 116]⟩ : ByteArray)] from rfl) (Reps.one (show Kd.M Kd.string _ _ _ (⟨#[105, 110, 105, 116, 105, 97, 108]⟩ : ByteArray) [.string (⟨#[105, 110, 105, 116, 105, 97, 108]⟩ : ByteArray)] from rfl) (Reps.one (show Kd.M Kd.string _ _ _ (⟨#[117, 110, 115, 101, 116]⟩ : ByteArray) [.string (⟨#[117, 110, 115, 101, 116]⟩ : ByteArray)] from rfl) (Reps.one (show Kd.M Kd.string _ _ _ (⟨#[114, 101, 118, 101, 114, 116]⟩ : ByteArray) [.string (⟨#[114, 101, 118, 101, 114, 116]⟩ : ByteArray)] from rfl) (Reps.none _ _)))))); intro v368 w24 ho25 hb hg_ hnew_; clear hg_ hnew_; (first | rw [← Ny367.out] at ho25 | (simp only [Int.reduceToNat] at ho25; rw [← Ny367.out] at ho25)); have HO369 := am_ (Kd.R_lower (Kd.R_new' ho25 (Kd.R_lt (row_ HO364))) (below_size bel_)); replace HO364 := am_ (Kd.R_elder' (row_ HO364) (Kd.R_base ho25) hb); replace BK360 := blb_ BK360 hb; replace BK361 := blb_ BK361 hb; replace HB := am_ (below_step bel_ hb); clear hb ho25; obtain ⟨Ao26, co26, eo26⟩ := Kd.R_slice HO369.out; subst eo26) | ((with_reducible refine gate_callee (f := 20) rfl ?_); refine goesL_ (some 38) rfl rfl Try.func20 (by kernel_rfl) rfl #[.slice A0 l0.length c0, .int .i64 a1, .slice Ao26 y367.length co26] rfl goa_ ?_; (with_reducible refine (r05_Keyword.calls k _ _ l0 a1 _ _ y367 t370 t371 _ ?side1 ?side2 ?side3 ?side4 A14.out).mono ?_); (case side1 => exact cin_); (case side2 => exact HC0.out); (case side3 => repeat (first | exact (Kd.R_reads' HO369.out).2.2 | (with_reducible refine Kd.C_alloc ?_ _) | (with_reducible refine Kd.C_drewN ?_ _) | (with_reducible refine Kd.C_drew ?_))); (case side4 => exact (Kd.R_reads' HO369.out).2.1); rintro e w27 ⟨rfl, hb⟩; refine ⟨_, rfl, ?_⟩; replace HO364 := am_ (Kd.R_below (row_ HO364) hb); replace HO369 := am_ (Kd.R_below (row_ HO369) hb); replace BK360 := blb_ BK360 hb; replace BK361 := blb_ BK361 hb; replace HB := am_ (below_step bel_ hb); clear hb; obtain ⟨hcz28_0, hcz28_1, hcz28_2⟩ := c3_ BK361; obtain ⟨hfz28_0, hfz28_1, hfz28_2⟩ := f3_ BK361; obtain ⟨hcz29_0, hcz29_1, hcz29_2⟩ := c3_ BK360; obtain ⟨hfz29_0, hfz29_1, hfz29_2⟩ := f3_ BK360))
  refine bodyPost_ret (results_ctt rfl _ _ gb360 26 #[.int .i64 0, .int .i64 0, .string (⟨#[]⟩ : ByteArray)] (0, 0) _ rfl (bch_) Try.underlying26 rfl (by kernel_rfl)) rfl ?_
  exact ⟨rsl_, bel_⟩
 rw [if_neg c15] at H; have c15b0 : decide (0 ≤ t370) = false := df_ c15; clear c15; have HC30 := am_ H; clear H; go_enter Try.func7, Try.ntmps7
 go_upto_block 0 with (first | ((with_reducible refine gate_dst (N := 4) rfl ?_); refine box_event ?hg (N := 4) ?hd (cs := #[.int .i64 0, .int .i64 0, .string (⟨#[]⟩ : ByteArray)]) (t := 26) ?hr ?_; (case hd => rfl); (case hg => rfl); (case hr => first | (go_simp; done) | (go_simp; rfl)); intro gb360 hg w31 hbox hb; have BK360 := am_ (hbox); have GW360 := am_ ((bsz_ hg : w.heap.size ≤ gb360)); have GE360 := am_ ((bsz_ hg : w.heap.size ≤ gb360)); replace HB := am_ (below_step bel_ hb); clear hb hbox hg) | ((with_reducible refine gate_dst (N := 7) rfl ?_); refine box_event ?hg (N := 7) ?hd (cs := #[.int .i64 0, .int .i64 0, .string (⟨#[]⟩ : ByteArray)]) (t := 26) ?hr ?_; (case hd => rfl); (case hg => rfl); (case hr => first | (go_simp; done) | (go_simp; rfl)); intro gb361 hg w32 hbox hb; have BK361 := am_ (hbox); have GW361 := am_ ((bsz_ hg : w.heap.size ≤ gb361)); have GE361 := am_ ((bsz_ hg : w.heap.size ≤ gb361)); have NB360_361 := am_ (bne_ BK360 hg : gb360 ≠ gb361); have NB361_360 := am_ (bng_ BK360 hg : gb361 ≠ gb360); replace BK360 := blb_ BK360 hb; replace HB := am_ (below_step bel_ hb); clear hb hbox hg; have hnb33 := NB361_360.out; have hnc33 := NB360_361.out; obtain ⟨hcz34_0, hcz34_1, hcz34_2⟩ := c3_ BK361; obtain ⟨hfz34_0, hfz34_1, hfz34_2⟩ := f3_ BK361) | ((with_reducible refine gate_dst (N := 25) rfl ?_); refine Kd.R_lit Kd.string _ 9 ?hg (N := 25) ?hd (xs := ([(⟨#[97, 117, 116, 111]⟩ : ByteArray)] : List ByteArray)) (inner := [.string (⟨#[97, 117, 116, 111]⟩ : ByteArray)]) (ok := fun _ => True) (okp := fun _ => True) ?hr ?hp (fun _ hk => hk) trivial (Below.refl _ _) (Nat.le_refl _) (by simp) ?_; (case hd => rfl); (case hg => rfl); (case hr => first | (go_simp; done) | (go_simp; rfl)); (case hp => exact (Reps.one (show Kd.M Kd.string _ _ _ (⟨#[97, 117, 116, 111]⟩ : ByteArray) [.string (⟨#[97, 117, 116, 111]⟩ : ByteArray)] from rfl) (Reps.none _ _))); intro v363 w35 ho36 hb hg_ hnew_; clear hg_ hnew_; (first | rw [← Ny362.out] at ho36 | (simp only [Int.reduceToNat] at ho36; rw [← Ny362.out] at ho36)); have HO364 := am_ (Kd.R_lower ho36 (below_size bel_)); replace BK360 := am_ (blk_below (g := gb360) (o := .cells #[.int .i64 0, .int .i64 0, .string (⟨#[]⟩ : ByteArray)] 26 (0, 0)) (bch_) hb); replace BK361 := am_ (blk_below (g := gb361) (o := .cells #[.int .i64 0, .int .i64 0, .string (⟨#[]⟩ : ByteArray)] 26 (0, 0)) (bch_) hb); replace HB := am_ (below_step bel_ hb); clear hb ho36; obtain ⟨Ao37, co37, eo37⟩ := Kd.R_slice HO364.out; subst eo37) | ((with_reducible refine gate_callee (f := 20) rfl ?_); refine goesL_ (some 26) rfl rfl Try.func20 (by kernel_rfl) rfl #[.slice A0 l0.length c0, .int .i64 a1, .slice Ao37 y362.length co37] rfl goa_ ?_; (with_reducible refine (r05_Keyword.calls k _ _ l0 a1 _ _ y362 t365 t366 _ ?side1 ?side2 ?side3 ?side4 A3.out).mono ?_); (case side1 => exact cin_); (case side2 => exact HC0.out); (case side3 => repeat (first | exact (Kd.R_reads' HO364.out).2.2 | (with_reducible refine Kd.C_alloc ?_ _) | (with_reducible refine Kd.C_drewN ?_ _) | (with_reducible refine Kd.C_drew ?_))); (case side4 => exact (Kd.R_reads' HO364.out).2.1); rintro e w38 ⟨rfl, hb⟩; refine ⟨_, rfl, ?_⟩; replace HO364 := am_ (Kd.R_below (row_ HO364) hb); replace BK360 := blb_ BK360 hb; replace BK361 := blb_ BK361 hb; replace HB := am_ (below_step bel_ hb); clear hb) | ((with_reducible refine gate_dst (N := 37) rfl ?_); refine Kd.R_lit Kd.string _ 9 ?hg (N := 37) ?hd (xs := ([(⟨#[105, 110, 104, 101, 114, 105, 116]⟩ : ByteArray), (⟨#[105, 110, 105, 116, 105, 97, 108]⟩ : ByteArray), (⟨#[117, 110, 115, 101, 116]⟩ : ByteArray), (⟨#[114, 101, 118, 101, 114, 116]⟩ : ByteArray)] : List ByteArray)) (inner := [.string (⟨#[105, 110, 104, 101, 114, 105, 116]⟩ : ByteArray), .string (⟨#[105, 110, 105, 116, 105, 97, 108]⟩ : ByteArray), .string (⟨#[117, 110, 115, 101, 116]⟩ : ByteArray), .string (⟨#[114, 101, 118, 101, 114, 116]⟩ : ByteArray)]) (ok := fun _ => True) (okp := fun _ => True) ?hr ?hp (fun _ hk => hk) trivial (Below.refl _ _) (Nat.le_refl _) (by simp) ?_; (case hd => rfl); (case hg => rfl); (case hr => first | (go_simp; done) | (go_simp; rfl)); (case hp => exact (Reps.one (show Kd.M Kd.string _ _ _ (⟨#[105, 110, 104, 101, 114, 105, 116]⟩ : ByteArray) [.string (⟨#[105, 110, 104, 101, 114, 105, 116]⟩ : ByteArray)] from rfl) (Reps.one (show Kd.M Kd.string _ _ _ (⟨#[105, 110, 105, 116, 105, 97, 108]⟩ : ByteArray) [.string (⟨#[105, 110, 105, 116, 105, 97, 108]⟩ : ByteArray)] from rfl) (Reps.one (show Kd.M Kd.string _ _ _ (⟨#[117, 110, 115, 101, 116]⟩ : ByteArray) [.string (⟨#[117, 110, 115, 101, 116]⟩ : ByteArray)] from rfl) (Reps.one (show Kd.M Kd.string _ _ _ (⟨#[114, 101, 118, 101, 114, 116]⟩ : ByteArray) [.string (⟨#[114, 101, 118, 101, 114, 116]⟩ : ByteArray)] from rfl) (Reps.none _ _)))))); intro v368 w39 ho40 hb hg_ hnew_; clear hg_ hnew_; (first | rw [← Ny367.out] at ho40 | (simp only [Int.reduceToNat] at ho40; rw [← Ny367.out] at ho40)); have HO369 := am_ (Kd.R_lower (Kd.R_new' ho40 (Kd.R_lt (row_ HO364))) (below_size bel_)); replace HO364 := am_ (Kd.R_elder' (row_ HO364) (Kd.R_base ho40) hb); replace BK360 := blb_ BK360 hb; replace BK361 := blb_ BK361 hb; replace HB := am_ (below_step bel_ hb); clear hb ho40; obtain ⟨Ao41, co41, eo41⟩ := Kd.R_slice HO369.out; subst eo41) | ((with_reducible refine gate_callee (f := 20) rfl ?_); refine goesL_ (some 38) rfl rfl Try.func20 (by kernel_rfl) rfl #[.slice A0 l0.length c0, .int .i64 a1, .slice Ao41 y367.length co41] rfl goa_ ?_; (with_reducible refine (r05_Keyword.calls k _ _ l0 a1 _ _ y367 t370 t371 _ ?side1 ?side2 ?side3 ?side4 A14.out).mono ?_); (case side1 => exact cin_); (case side2 => exact HC0.out); (case side3 => repeat (first | exact (Kd.R_reads' HO369.out).2.2 | (with_reducible refine Kd.C_alloc ?_ _) | (with_reducible refine Kd.C_drewN ?_ _) | (with_reducible refine Kd.C_drew ?_))); (case side4 => exact (Kd.R_reads' HO369.out).2.1); rintro e w42 ⟨rfl, hb⟩; refine ⟨_, rfl, ?_⟩; replace HO364 := am_ (Kd.R_below (row_ HO364) hb); replace HO369 := am_ (Kd.R_below (row_ HO369) hb); replace BK360 := blb_ BK360 hb; replace BK361 := blb_ BK361 hb; replace HB := am_ (below_step bel_ hb); clear hb))
 (try simp only [Act.put, List.setIfInBounds_toArray, List.set_cons_zero, List.set_cons_succ])
 go_cut [12, 13, 14, 15] (fun v12 v13 v14 v15 wc => ∃ (kq : Nat) (x12_29 : Int) (x13_29 : Int) (x14_29 : Int) (x15_29 : Int), v12 = .int .i64 x12_29 ∧ v13 = .int .i64 x13_29 ∧ v14 = .int .i64 x14_29 ∧ v15 = .int .i64 x15_29 ∧ Aside0 (r07_Read.j4 kq l0 a1 x12_29 x13_29 x14_29 x15_29 0 0 (⟨#[]⟩ : ByteArray) = some (r1, r2, r3, r4, r5)) ∧ Aside0 (kq ≤ k) ∧ Aside0 (wc.heap[gb360]? = some (.cells #[.int .i64 0, .int .i64 0, .string (⟨#[]⟩ : ByteArray)] 26 (0, 0))) ∧ Aside0 (wc.heap[gb361]? = some (.cells #[.int .i64 0, .int .i64 0, .string (⟨#[]⟩ : ByteArray)] 26 (0, 0))) ∧ Aside0 (Below w.heap.size w wc))
 case first =>
  have H := HC30.out; clear HC30; have H' := am_ H; clear H; go_wp2; go_loopg [12, 13, 14, 15] k (fun kq v12 v13 v14 v15 w' => ∃ (x12_1 : Int) (x13_1 : Int) (x14_1 : Int) (x15_1 : Int), v12 = .int .i64 x12_1 ∧ v13 = .int .i64 x13_1 ∧ v14 = .int .i64 x14_1 ∧ v15 = .int .i64 x15_1 ∧ Aside0 (r07_Read.l0 kq l0 a1 x12_1 x13_1 x14_1 x15_1 0 0 (⟨#[]⟩ : ByteArray) = some (r1, r2, r3, r4, r5)) ∧ Aside0 (kq ≤ k) ∧ Aside0 (w'.heap[gb360]? = some (.cells #[.int .i64 0, .int .i64 0, .string (⟨#[]⟩ : ByteArray)] 26 (0, 0))) ∧ Aside0 (w'.heap[gb361]? = some (.cells #[.int .i64 0, .int .i64 0, .string (⟨#[]⟩ : ByteArray)] 26 (0, 0))) ∧ Aside0 (Below w.heap.size w w'))
  case atStart => exact ⟨((-1)), ((-1)), ((-1)), (a1), rfs_, rfs_, rfs_, rfs_, H', ⟨Nat.le_refl _⟩, ⟨blk_⟩, ⟨blk_⟩, ⟨bel_⟩⟩
  case round =>
   clear H'; try clear c4b0
   try clear c15b0
   try clear hcz34_0
   try clear hcz34_1
   try clear hcz34_2
   try clear hfz34_0
   try clear hfz34_1
   try clear hfz34_2
   obtain ⟨x12_1, x13_1, x14_1, x15_1, rfl, rfl, rfl, rfl, HA, HK1, BK360, BK361, HB⟩ := hrel
   cases gk with
   | zero => exact absurd HA.out (by simp [r07_Read.l0])
   | succ k1 =>
    have H := HA.out; clear HA; simp only [r07_Read.l0] at H; replace H := bs_ H; obtain ⟨t372, A430, H⟩ := H; try dsimp only at H
    have A43 := am_ A430; clear A430; have HC44 := am_ H; clear H; go_upto_region 13 with (first | ((with_reducible refine gate_callee (f := 21) rfl ?_); refine goesL_ (some 48) rfl rfl Try.func21 (by kernel_rfl) rfl #[.slice A0 l0.length c0, .int .i64 x15_1] rfl goa_ ?_; (with_reducible refine (r07_kind.calls k1 _ _ l0 x15_1 t372 _ ?side1 ?side2 A43.out).mono ?_); (case side1 => exact cin_); (case side2 => exact HC0.out); rintro e w45 ⟨rfl, hb⟩; refine ⟨_, rfl, ?_⟩; replace BK360 := blb_ BK360 hb; replace BK361 := blb_ BK361 hb; replace HB := am_ (below_step bel_ hb); clear hb))
    (try simp only [Act.put, List.setIfInBounds_toArray, List.set_cons_zero, List.set_cons_succ])
    go_cut [54] (fun v54 wc => ∃ (kq : Nat) (x54_43 : Bool), v54 = .bool x54_43 ∧ Aside0 (r07_Read.j1 kq l0 a1 x12_1 x13_1 x14_1 x15_1 t372 x54_43 0 0 (⟨#[]⟩ : ByteArray) = some (r1, r2, r3, r4, r5)) ∧ Aside0 (kq ≤ k1) ∧ Aside0 (wc.heap[gb360]? = some (.cells #[.int .i64 0, .int .i64 0, .string (⟨#[]⟩ : ByteArray)] 26 (0, 0))) ∧ Aside0 (wc.heap[gb361]? = some (.cells #[.int .i64 0, .int .i64 0, .string (⟨#[]⟩ : ByteArray)] 26 (0, 0))) ∧ Aside0 (Below w.heap.size w wc))
    case first =>
     have H := HC44.out; clear HC44; by_cases c46 : t372 = 1
     ·rw [if_pos c46] at H; have c46b0 : (t372 == 1) = true := beq_iff_eq.mpr c46; have c46b1 : (t372 != 1) = false := bne_eq_false_iff_eq.mpr c46; clear c46; (first | rw [c46b0] | (simp only [i64_w, i32_w]; rw [c46b0]) | skip)
      have H' := am_ H; clear H; go_wp2; go_meet
      case rel => exact ⟨_, (decide (x12_1 < 0)), rfs_, H', ⟨by have := HK1.out; first | omega | exact Nat.le_refl _⟩, ⟨blk_⟩, ⟨blk_⟩, ⟨bel_⟩⟩
     rw [if_neg c46] at H; have c46b0 : (t372 == 1) = false := beq_eq_false_iff_ne.mpr c46; have c46b1 : (t372 != 1) = true := bne_iff_ne.mpr c46; (first | rw [c46b0] | (simp only [i64_w, i32_w]; rw [c46b0]) | skip)
     have H' := am_ H; clear H; go_wp2; go_meet
     case rel => exact ⟨_, (false), rfs_, H', ⟨by have := HK1.out; first | omega | exact Nat.le_refl _⟩, ⟨blk_⟩, ⟨blk_⟩, ⟨bel_⟩⟩
    clear HC44; obtain ⟨kq, x54_43, rfl, HA, HJ43, BK360, BK361, HB⟩ := hcut
    cases kq with
    | zero => exact absurd HA.out (by simp [r07_Read.j1])
    | succ kj43 =>
     have H := HA.out; clear HA; simp only [r07_Read.j1] at H; by_cases c47 : x54_43 = true
     ·subst c47; rw [if_pos rfl] at H; by_cases c48 : t372 = 3
      ·rw [if_pos c48] at H; have c48b0 : (t372 == 3) = true := beq_iff_eq.mpr c48; have c48b1 : (t372 != 3) = false := bne_eq_false_iff_eq.mpr c48; clear c48; by_cases c49 : x14_1 > a1
       ·rw [if_pos c49] at H; have c49b0 : decide (a1 < x14_1) = true := dt_ c49; clear c49; have H' := am_ H; clear H; go_wp2; go_meet
        case rel => exact ⟨_, (x15_1), (x13_1), (x14_1), (wrap64 (x15_1 + 1)), rfs_, rfs_, rfs_, rfs_, H', ⟨by have := HK1.out; have := HJ43.out; first | omega | exact Nat.le_refl _⟩, ⟨blk_⟩, ⟨blk_⟩, ⟨bel_⟩⟩
       rw [if_neg c49] at H; have c49b0 : decide (a1 < x14_1) = false := df_ c49; clear c49; have H' := am_ H; clear H; go_wp2; go_roundg kj43
       case measure => have := HK1.out; have := HJ43.out; omega
       case rel => exact ⟨(x15_1), (x13_1), (x14_1), (wrap64 (x15_1 + 1)), rfs_, rfs_, rfs_, rfs_, H', ⟨by have := HK1.out; have := HJ43.out; omega⟩, ⟨blk_⟩, ⟨blk_⟩, ⟨bel_⟩⟩
      rw [if_neg c48] at H; have c48b0 : (t372 == 3) = false := beq_eq_false_iff_ne.mpr c48; have c48b1 : (t372 != 3) = true := bne_iff_ne.mpr c48; have H' := am_ H; clear H; go_wp2; go_roundg kj43
      case measure => have := HK1.out; have := HJ43.out; omega
      case rel => exact ⟨(x15_1), (x13_1), (x14_1), (wrap64 (x15_1 + 1)), rfs_, rfs_, rfs_, rfs_, H', ⟨by have := HK1.out; have := HJ43.out; omega⟩, ⟨blk_⟩, ⟨blk_⟩, ⟨bel_⟩⟩
     replace c47 := Bool.eq_false_iff.mpr c47; subst c47; rw [if_neg (show ¬ (false = true) by decide)] at H; have HC50 := am_ H; clear H; go_upto_region 15 with (fail)
     go_cut [61] (fun v61 wc => ∃ (kq : Nat) (x61_49 : Bool), v61 = .bool x61_49 ∧ Aside0 (r07_Read.j2 kq l0 a1 x12_1 x13_1 x14_1 x15_1 t372 x61_49 0 0 (⟨#[]⟩ : ByteArray) = some (r1, r2, r3, r4, r5)) ∧ Aside0 (kq ≤ kj43) ∧ Aside0 (wc.heap[gb360]? = some (.cells #[.int .i64 0, .int .i64 0, .string (⟨#[]⟩ : ByteArray)] 26 (0, 0))) ∧ Aside0 (wc.heap[gb361]? = some (.cells #[.int .i64 0, .int .i64 0, .string (⟨#[]⟩ : ByteArray)] 26 (0, 0))) ∧ Aside0 (Below w.heap.size w wc))
     case first =>
      have H := HC50.out; clear HC50; by_cases c51 : t372 = 2
      ·rw [if_pos c51] at H; have c51b0 : (t372 == 2) = true := beq_iff_eq.mpr c51; have c51b1 : (t372 != 2) = false := bne_eq_false_iff_eq.mpr c51; clear c51; (first | rw [c51b0] | (simp only [i64_w, i32_w]; rw [c51b0]) | skip)
       have H' := am_ H; clear H; go_wp2; go_meet
       case rel => exact ⟨_, (decide (x13_1 < 0)), rfs_, H', ⟨by have := HK1.out; have := HJ43.out; first | omega | exact Nat.le_refl _⟩, ⟨blk_⟩, ⟨blk_⟩, ⟨bel_⟩⟩
      rw [if_neg c51] at H; have c51b0 : (t372 == 2) = false := beq_eq_false_iff_ne.mpr c51; have c51b1 : (t372 != 2) = true := bne_iff_ne.mpr c51; (first | rw [c51b0] | (simp only [i64_w, i32_w]; rw [c51b0]) | skip)
      have H' := am_ H; clear H; go_wp2; go_meet
      case rel => exact ⟨_, (false), rfs_, H', ⟨by have := HK1.out; have := HJ43.out; first | omega | exact Nat.le_refl _⟩, ⟨blk_⟩, ⟨blk_⟩, ⟨bel_⟩⟩
     clear HC50; try clear c47
     obtain ⟨kq, x61_49, rfl, HA, HJ49, BK360, BK361, HB⟩ := hcut
     cases kq with
     | zero => exact absurd HA.out (by simp [r07_Read.j2])
     | succ kj49 =>
      have H := HA.out; clear HA; simp only [r07_Read.j2] at H; by_cases c52 : x61_49 = true
      ·subst c52; rw [if_pos rfl] at H; by_cases c53 : t372 = 3
       ·rw [if_pos c53] at H; have c53b0 : (t372 == 3) = true := beq_iff_eq.mpr c53; have c53b1 : (t372 != 3) = false := bne_eq_false_iff_eq.mpr c53; clear c53; by_cases c54 : x14_1 > a1
        ·rw [if_pos c54] at H; have c54b0 : decide (a1 < x14_1) = true := dt_ c54; clear c54; have H' := am_ H; clear H; go_wp2; go_meet
         case rel => exact ⟨_, (x12_1), (x15_1), (x14_1), (wrap64 (x15_1 + 1)), rfs_, rfs_, rfs_, rfs_, H', ⟨by have := HK1.out; have := HJ43.out; have := HJ49.out; first | omega | exact Nat.le_refl _⟩, ⟨blk_⟩, ⟨blk_⟩, ⟨bel_⟩⟩
        rw [if_neg c54] at H; have c54b0 : decide (a1 < x14_1) = false := df_ c54; clear c54; have H' := am_ H; clear H; go_wp2; go_roundg kj49
        case measure => have := HK1.out; have := HJ43.out; have := HJ49.out; omega
        case rel => exact ⟨(x12_1), (x15_1), (x14_1), (wrap64 (x15_1 + 1)), rfs_, rfs_, rfs_, rfs_, H', ⟨by have := HK1.out; have := HJ43.out; have := HJ49.out; omega⟩, ⟨blk_⟩, ⟨blk_⟩, ⟨bel_⟩⟩
       rw [if_neg c53] at H; have c53b0 : (t372 == 3) = false := beq_eq_false_iff_ne.mpr c53; have c53b1 : (t372 != 3) = true := bne_iff_ne.mpr c53; have H' := am_ H; clear H; go_wp2; go_roundg kj49
       case measure => have := HK1.out; have := HJ43.out; have := HJ49.out; omega
       case rel => exact ⟨(x12_1), (x15_1), (x14_1), (wrap64 (x15_1 + 1)), rfs_, rfs_, rfs_, rfs_, H', ⟨by have := HK1.out; have := HJ43.out; have := HJ49.out; omega⟩, ⟨blk_⟩, ⟨blk_⟩, ⟨bel_⟩⟩
      replace c52 := Bool.eq_false_iff.mpr c52; subst c52; rw [if_neg (show ¬ (false = true) by decide)] at H; have HC55 := am_ H; clear H; go_upto_region 17 with (fail)
      go_cut [68] (fun v68 wc => ∃ (kq : Nat) (x68_54 : Bool), v68 = .bool x68_54 ∧ Aside0 (r07_Read.j3 kq l0 a1 x12_1 x13_1 x14_1 x15_1 t372 x68_54 0 0 (⟨#[]⟩ : ByteArray) = some (r1, r2, r3, r4, r5)) ∧ Aside0 (kq ≤ kj49) ∧ Aside0 (wc.heap[gb360]? = some (.cells #[.int .i64 0, .int .i64 0, .string (⟨#[]⟩ : ByteArray)] 26 (0, 0))) ∧ Aside0 (wc.heap[gb361]? = some (.cells #[.int .i64 0, .int .i64 0, .string (⟨#[]⟩ : ByteArray)] 26 (0, 0))) ∧ Aside0 (Below w.heap.size w wc))
      case first =>
       have H := HC55.out; clear HC55; by_cases c56 : t372 = 3
       ·rw [if_pos c56] at H; have c56b0 : (t372 == 3) = true := beq_iff_eq.mpr c56; have c56b1 : (t372 != 3) = false := bne_eq_false_iff_eq.mpr c56; clear c56; (first | rw [c56b0] | (simp only [i64_w, i32_w]; rw [c56b0]) | skip)
        have H' := am_ H; clear H; go_wp2; go_meet
        case rel => exact ⟨_, (decide (x14_1 < 0)), rfs_, H', ⟨by have := HK1.out; have := HJ43.out; have := HJ49.out; first | omega | exact Nat.le_refl _⟩, ⟨blk_⟩, ⟨blk_⟩, ⟨bel_⟩⟩
       rw [if_neg c56] at H; have c56b0 : (t372 == 3) = false := beq_eq_false_iff_ne.mpr c56; have c56b1 : (t372 != 3) = true := bne_iff_ne.mpr c56; (first | rw [c56b0] | (simp only [i64_w, i32_w]; rw [c56b0]) | skip)
       have H' := am_ H; clear H; go_wp2; go_meet
       case rel => exact ⟨_, (false), rfs_, H', ⟨by have := HK1.out; have := HJ43.out; have := HJ49.out; first | omega | exact Nat.le_refl _⟩, ⟨blk_⟩, ⟨blk_⟩, ⟨bel_⟩⟩
      clear HC55; try clear c52
      obtain ⟨kq, x68_54, rfl, HA, HJ54, BK360, BK361, HB⟩ := hcut
      cases kq with
      | zero => exact absurd HA.out (by simp [r07_Read.j3])
      | succ kj54 =>
       have H := HA.out; clear HA; simp only [r07_Read.j3] at H; by_cases c57 : x68_54 = true
       ·subst c57; rw [if_pos rfl] at H; by_cases c58 : t372 = 3
        ·rw [if_pos c58] at H; have c58b0 : (t372 == 3) = true := beq_iff_eq.mpr c58; have c58b1 : (t372 != 3) = false := bne_eq_false_iff_eq.mpr c58; clear c58; by_cases c59 : x15_1 > a1
         ·rw [if_pos c59] at H; have c59b0 : decide (a1 < x15_1) = true := dt_ c59; clear c59; have H' := am_ H; clear H; go_wp2; go_meet
          case rel => exact ⟨_, (x12_1), (x13_1), (x15_1), (wrap64 (x15_1 + 1)), rfs_, rfs_, rfs_, rfs_, H', ⟨by have := HK1.out; have := HJ43.out; have := HJ49.out; have := HJ54.out; first | omega | exact Nat.le_refl _⟩, ⟨blk_⟩, ⟨blk_⟩, ⟨bel_⟩⟩
         rw [if_neg c59] at H; have c59b0 : decide (a1 < x15_1) = false := df_ c59; clear c59; have H' := am_ H; clear H; go_wp2; go_roundg kj54
         case measure => have := HK1.out; have := HJ43.out; have := HJ49.out; have := HJ54.out; omega
         case rel => exact ⟨(x12_1), (x13_1), (x15_1), (wrap64 (x15_1 + 1)), rfs_, rfs_, rfs_, rfs_, H', ⟨by have := HK1.out; have := HJ43.out; have := HJ49.out; have := HJ54.out; omega⟩, ⟨blk_⟩, ⟨blk_⟩, ⟨bel_⟩⟩
        rw [if_neg c58] at H; have c58b0 : (t372 == 3) = false := beq_eq_false_iff_ne.mpr c58; have c58b1 : (t372 != 3) = true := bne_iff_ne.mpr c58; have H' := am_ H; clear H; go_wp2; go_roundg kj54
        case measure => have := HK1.out; have := HJ43.out; have := HJ49.out; have := HJ54.out; omega
        case rel => exact ⟨(x12_1), (x13_1), (x15_1), (wrap64 (x15_1 + 1)), rfs_, rfs_, rfs_, rfs_, H', ⟨by have := HK1.out; have := HJ43.out; have := HJ49.out; have := HJ54.out; omega⟩, ⟨blk_⟩, ⟨blk_⟩, ⟨bel_⟩⟩
       replace c57 := Bool.eq_false_iff.mpr c57; subst c57; rw [if_neg (show ¬ (false = true) by decide)] at H; have H' := am_ H; clear H; go_wp2; go_meet
       case rel => exact ⟨_, (x12_1), (x13_1), (x14_1), (x15_1), rfs_, rfs_, rfs_, rfs_, H', ⟨by have := HK1.out; have := HJ43.out; have := HJ49.out; have := HJ54.out; first | omega | exact Nat.le_refl _⟩, ⟨blk_⟩, ⟨blk_⟩, ⟨bel_⟩⟩
 clear HC30; try clear c4b0
 try clear c15b0
 try clear hcz34_0
 try clear hcz34_1
 try clear hcz34_2
 try clear hfz34_0
 try clear hfz34_1
 try clear hfz34_2
 obtain ⟨kq, x12_29, x13_29, x14_29, x15_29, rfl, rfl, rfl, rfl, HA, HJ29, BK360, BK361, HB⟩ := hcut
 cases kq with
 | zero => exact absurd HA.out (by simp [r07_Read.j4])
 | succ kj29 =>
  have H := HA.out; clear HA; simp only [r07_Read.j4] at H; by_cases c60 : x15_29 = a1
  ·rw [if_pos c60] at H; have c60b0 : (x15_29 == a1) = true := beq_iff_eq.mpr c60; have c60b1 : (x15_29 != a1) = false := bne_eq_false_iff_eq.mpr c60; clear c60; simp only [Option.some.injEq, Prod.mk.injEq] at H; obtain ⟨rfl, rfl, rfl, rfl, rfl⟩ := H; have hnb61 := NB361_360.out; have hnc61 := NB360_361.out; obtain ⟨hcz62_0, hcz62_1, hcz62_2⟩ := c3_ BK361; obtain ⟨hfz62_0, hfz62_1, hfz62_2⟩ := f3_ BK361; obtain ⟨hcz63_0, hcz63_1, hcz63_2⟩ := c3_ BK360; obtain ⟨hfz63_0, hfz63_1, hfz63_2⟩ := f3_ BK360; go_wp2; refine bodyPost_ret (results_ctt rfl _ _ gb360 26 #[.int .i64 0, .int .i64 0, .string (⟨#[]⟩ : ByteArray)] (0, 0) _ rfl (bch_) Try.underlying26 rfl (by kernel_rfl)) rfl ?_
   exact ⟨rsl_, bel_⟩
  rw [if_neg c60] at H; have c60b0 : (x15_29 == a1) = false := beq_eq_false_iff_ne.mpr c60; have c60b1 : (x15_29 != a1) = true := bne_iff_ne.mpr c60; have HC64 := am_ H; clear H; go_upto_if 86 with (first | ((with_reducible refine gate_dst (N := 17) rfl ?_); refine box_event ?hg (N := 17) ?hd (cs := #[.int .i64 0, .int .i64 0, .string (⟨#[]⟩ : ByteArray)]) (t := 26) ?hr ?_; (case hd => rfl); (case hg => rfl); (case hr => first | (go_simp; done) | (go_simp; rfl)); intro gb373 hg w65 hbox hb; have BK373 := am_ (hbox); have GW373 := am_ ((bsz_ hg : w.heap.size ≤ gb373)); have GE373 := am_ ((bsz_ hg : w.heap.size ≤ gb373)); have NB360_373 := am_ (bne_ BK360 hg : gb360 ≠ gb373); have NB373_360 := am_ (bng_ BK360 hg : gb373 ≠ gb360); have NB361_373 := am_ (bne_ BK361 hg : gb361 ≠ gb373); have NB373_361 := am_ (bng_ BK361 hg : gb373 ≠ gb361); replace BK360 := blb_ BK360 hb; replace BK361 := blb_ BK361 hb; replace HB := am_ (below_step bel_ hb); clear hb hbox hg; have hnb66 := NB373_360.out; have hnc66 := NB360_373.out; have hnb67 := NB373_361.out; have hnc67 := NB361_373.out; obtain ⟨hcz68_0, hcz68_1, hcz68_2⟩ := c3_ BK373; obtain ⟨hfz68_0, hfz68_1, hfz68_2⟩ := f3_ BK373))
  (try simp only [Act.put, List.setIfInBounds_toArray, List.set_cons_zero, List.set_cons_succ])
  go_cut [] (fun wc => ∃ (kq : Nat) (x374002_63 : ByteArray), Aside0 (r07_Read.j5 kq l0 x12_29 x13_29 x14_29 x15_29 0 0 (⟨#[]⟩ : ByteArray) 3 0 x374002_63 = some (r1, r2, r3, r4, r5)) ∧ Aside0 (kq ≤ kj29) ∧ Aside0 (wc.heap[gb360]? = some (.cells #[.int .i64 0, .int .i64 0, .string (⟨#[]⟩ : ByteArray)] 26 (0, 0))) ∧ Aside0 (wc.heap[gb361]? = some (.cells #[.int .i64 0, .int .i64 0, .string (⟨#[]⟩ : ByteArray)] 26 (0, 0))) ∧ Aside0 (wc.heap[gb373]? = some (.cells #[.int .i64 3, .int .i64 0, .string x374002_63] 26 (0, 0))) ∧ Aside0 (Below w.heap.size w wc))
  case first =>
   have H := HC64.out; clear HC64; by_cases c69 : x13_29 ≥ 0
   ·rw [if_pos c69] at H; have c69b0 : decide (0 ≤ x13_29) = true := dt_ c69; clear c69; (first | rw [c69b0] | (simp only [i64_w, i32_w]; rw [c69b0]) | skip)
    by_cases c70 : 0 ≤ x13_29
    ·rw [if_pos c70] at H; have c70b0 : decide (0 ≤ x13_29) = true := dt_ c70; clear c70; by_cases c71 : x13_29 < (l0.length : Int)
     ·rw [if_pos c71] at H; have c71b0 : decide (x13_29 < (l0.length : Int)) = true := dt_ c71; clear c71; have H' := am_ H; clear H; have p374 : 0 ≤ (x13_29 : Int) := od_ (by first | (with_reducible assumption) | assumption); have q374 : x13_29 < (l0.length : Int) := od_ (by first | (with_reducible assumption) | assumption); obtain ⟨ad374, e374, hx374_0, hx374_1, hx374_2, hx374_3⟩ := at_T43 HR0.out x13_29 p374 q374; cases e374
      have hn374_0 : ad374.block ≠ gb373 := Nat.ne_of_lt (Nat.lt_of_lt_of_le (by have := World.block_lt_of_cell? _ _ hx374_0; first | rwa [add_block] at this | exact this) GW373.out); have hn374_1 : ad374.block ≠ gb373 := Nat.ne_of_lt (Nat.lt_of_lt_of_le (by have := World.block_lt_of_cell? _ _ hx374_0; first | rwa [add_block] at this | exact this) GW373.out); have hn374_2 : ad374.block ≠ gb373 := Nat.ne_of_lt (Nat.lt_of_lt_of_le (by have := World.block_lt_of_cell? _ _ hx374_0; first | rwa [add_block] at this | exact this) GW373.out); replace hx374_0 := (HB.out.cell (World.block_lt_of_cell? w _ hx374_0)).trans hx374_0; replace hx374_1 := (HB.out.cell (World.block_lt_of_cell? w _ hx374_1)).trans hx374_1; replace hx374_2 := (HB.out.cell (World.block_lt_of_cell? w _ hx374_2)).trans hx374_2; replace hx374_3 := (HB.out.cell (World.block_lt_of_cell? w _ hx374_3)).trans hx374_3; replace hx374_0 := (cell_far (p := ⟨gb373, 0, none⟩) (by first | (rw [add_block]; exact hn374_0) | (show (Addr.add _ _).block ≠ _; rw [add_block]; exact hn374_0) | exact hn374_0) (.int .i64 3)).trans hx374_0; replace hx374_1 := (cell_far (p := ⟨gb373, 0, none⟩) (by first | (rw [add_block]; exact hn374_0) | (show (Addr.add _ _).block ≠ _; rw [add_block]; exact hn374_0) | exact hn374_0) (.int .i64 3)).trans hx374_1; replace hx374_2 := (cell_far (p := ⟨gb373, 0, none⟩) (by first | (rw [add_block]; exact hn374_0) | (show (Addr.add _ _).block ≠ _; rw [add_block]; exact hn374_0) | exact hn374_0) (.int .i64 3)).trans hx374_2; replace hx374_3 := (cell_far (p := ⟨gb373, 0, none⟩) (by first | (rw [add_block]; exact hn374_0) | (show (Addr.add _ _).block ≠ _; rw [add_block]; exact hn374_0) | exact hn374_0) (.int .i64 3)).trans hx374_3; replace hx374_0 := (cell_far (p := ⟨gb373, 1, none⟩) (by first | (rw [add_block]; exact hn374_1) | (show (Addr.add _ _).block ≠ _; rw [add_block]; exact hn374_1) | exact hn374_1) (.int .i64 0)).trans hx374_0; replace hx374_1 := (cell_far (p := ⟨gb373, 1, none⟩) (by first | (rw [add_block]; exact hn374_1) | (show (Addr.add _ _).block ≠ _; rw [add_block]; exact hn374_1) | exact hn374_1) (.int .i64 0)).trans hx374_1; replace hx374_2 := (cell_far (p := ⟨gb373, 1, none⟩) (by first | (rw [add_block]; exact hn374_1) | (show (Addr.add _ _).block ≠ _; rw [add_block]; exact hn374_1) | exact hn374_1) (.int .i64 0)).trans hx374_2; replace hx374_3 := (cell_far (p := ⟨gb373, 1, none⟩) (by first | (rw [add_block]; exact hn374_1) | (show (Addr.add _ _).block ≠ _; rw [add_block]; exact hn374_1) | exact hn374_1) (.int .i64 0)).trans hx374_3; replace hx374_0 := (cell_far (p := ⟨gb373, 2, none⟩) (by first | (rw [add_block]; exact hn374_2) | (show (Addr.add _ _).block ≠ _; rw [add_block]; exact hn374_2) | exact hn374_2) (.string (⟨#[]⟩ : ByteArray))).trans hx374_0; replace hx374_1 := (cell_far (p := ⟨gb373, 2, none⟩) (by first | (rw [add_block]; exact hn374_2) | (show (Addr.add _ _).block ≠ _; rw [add_block]; exact hn374_2) | exact hn374_2) (.string (⟨#[]⟩ : ByteArray))).trans hx374_1; replace hx374_2 := (cell_far (p := ⟨gb373, 2, none⟩) (by first | (rw [add_block]; exact hn374_2) | (show (Addr.add _ _).block ≠ _; rw [add_block]; exact hn374_2) | exact hn374_2) (.string (⟨#[]⟩ : ByteArray))).trans hx374_2; replace hx374_3 := (cell_far (p := ⟨gb373, 2, none⟩) (by first | (rw [add_block]; exact hn374_2) | (show (Addr.add _ _).block ≠ _; rw [add_block]; exact hn374_2) | exact hn374_2) (.string (⟨#[]⟩ : ByteArray))).trans hx374_3; clear hn374_0; clear hn374_1; clear hn374_2; replace p374 := eq_true p374; replace q374 := eq_true q374; have hnb72 := NB373_360.out; have hnc72 := NB360_373.out; have hnb73 := NB373_361.out; have hnc73 := NB361_373.out; obtain ⟨hcz74_0, hcz74_1, hcz74_2⟩ := c3_ BK373; obtain ⟨hfz74_0, hfz74_1, hfz74_2⟩ := f3_ BK373; go_wp2; go_meet
      case rel => exact ⟨_, ((rd_T43 l0 x13_29).f2), H', ⟨by have := HJ29.out; first | omega | exact Nat.le_refl _⟩, ⟨bch_⟩, ⟨bch_⟩, ⟨bch_⟩, ⟨bel_⟩⟩
     rw [if_neg c71] at H; exact absurd H (by simp)
    rw [if_neg c70] at H; exact absurd H (by simp)
   rw [if_neg c69] at H; have c69b0 : decide (0 ≤ x13_29) = false := df_ c69; clear c69; (first | rw [c69b0] | (simp only [i64_w, i32_w]; rw [c69b0]) | skip)
   have H' := am_ H; clear H; go_wp2; go_meet
   case rel => exact ⟨_, ((⟨#[]⟩ : ByteArray)), H', ⟨by have := HJ29.out; first | omega | exact Nat.le_refl _⟩, ⟨bch_⟩, ⟨bch_⟩, ⟨bch_⟩, ⟨bel_⟩⟩
  clear HC64; try clear c60
  try clear c60b0
  try clear c60b1
  try clear hcz68_0
  try clear hcz68_1
  try clear hcz68_2
  try clear hfz68_0
  try clear hfz68_1
  try clear hfz68_2
  obtain ⟨kq, x374002_63, HA, HJ63, BK360, BK361, BK373, HB⟩ := hcut
  cases kq with
  | zero => exact absurd HA.out (by simp [r07_Read.j5])
  | succ kj63 =>
   have H := HA.out; clear HA; simp only [r07_Read.j5] at H; have HC75 := am_ H; clear H; go_upto_if 94 with (fail)
   go_cut [] (fun wc => ∃ (kq : Nat) (x361000_74 : Int) (x361001_74 : Int) (x361002_74 : ByteArray) (x374000_74 : Int) (x374001_74 : Int), Aside0 (r07_Read.j7 kq x12_29 x13_29 x14_29 x15_29 0 0 (⟨#[]⟩ : ByteArray) x374000_74 x374001_74 x374002_63 = some (r1, r2, r3, r4, r5)) ∧ Aside0 (kq ≤ kj63) ∧ Aside0 (wc.heap[gb360]? = some (.cells #[.int .i64 x361000_74, .int .i64 x361001_74, .string x361002_74] 26 (0, 0))) ∧ Aside0 (wc.heap[gb361]? = some (.cells #[.int .i64 0, .int .i64 0, .string (⟨#[]⟩ : ByteArray)] 26 (0, 0))) ∧ Aside0 (wc.heap[gb373]? = some (.cells #[.int .i64 x374000_74, .int .i64 x374001_74, .string x374002_63] 26 (0, 0))) ∧ Aside0 (Below w.heap.size w wc))
   case first =>
    have H := HC75.out; clear HC75; by_cases c76 : x12_29 ≥ 0
    ·rw [if_pos c76] at H; have c76b0 : decide (0 ≤ x12_29) = true := dt_ c76; clear c76; (first | rw [c76b0] | (simp only [i64_w, i32_w]; rw [c76b0]) | skip)
     replace H := bs_ H; obtain ⟨⟨t375, t376, t377⟩, A770, H⟩ := H; try dsimp only at H
     have A77 := am_ A770; clear A770; have HC78 := am_ H; clear H; go_upto_region 28 with (first | ((with_reducible refine gate_callee (f := 22) rfl ?_); refine goesL_ (some 98) rfl rfl Try.func22 (by kernel_rfl) rfl #[.slice A0 l0.length c0, .int .i64 x12_29] rfl goa_ ?_; (with_reducible refine (r05_Integer.calls kj63 _ _ l0 x12_29 t375 t376 t377 _ ?side1 ?side2 A77.out).mono ?_); (case side1 => exact cin_); (case side2 => exact HC0.out); rintro e w79 ⟨rfl, hb⟩; refine ⟨_, rfl, ?_⟩; replace BK360 := blb_ BK360 hb; replace BK361 := blb_ BK361 hb; replace BK373 := blb_ BK373 hb; replace HB := am_ (below_step bel_ hb); clear hb))
     (try simp only [Act.put, List.setIfInBounds_toArray, List.set_cons_zero, List.set_cons_succ])
     go_cut [111] (fun v111 wc => ∃ (kq : Nat) (x111_77 : Bool), v111 = .bool x111_77 ∧ Aside0 (r07_Read.j6 kq x12_29 x13_29 x14_29 x15_29 t375 x111_77 0 0 (⟨#[]⟩ : ByteArray) 3 0 x374002_63 = some (r1, r2, r3, r4, r5)) ∧ Aside0 (kq ≤ kj63) ∧ Aside0 (wc.heap[gb360]? = some (.cells #[.int .i64 0, .int .i64 0, .string (⟨#[]⟩ : ByteArray)] 26 (0, 0))) ∧ Aside0 (wc.heap[gb361]? = some (.cells #[.int .i64 0, .int .i64 0, .string (⟨#[]⟩ : ByteArray)] 26 (0, 0))) ∧ Aside0 (wc.heap[gb373]? = some (.cells #[.int .i64 3, .int .i64 0, .string x374002_63] 26 (0, 0))) ∧ Aside0 (Below w.heap.size w wc))
     case first =>
      have H := HC78.out; clear HC78; by_cases c80 : t377 = 0
      ·rw [if_pos c80] at H; have c80b0 : (t377 == 0) = true := beq_iff_eq.mpr c80; have c80b1 : (t377 != 0) = false := bne_eq_false_iff_eq.mpr c80; clear c80; (first | rw [c80b0] | (simp only [i64_w, i32_w]; rw [c80b0]) | skip)
       by_cases c81 : t375 > 10000
       ·rw [if_pos c81] at H; have c81b0 : decide (10000 < t375) = true := dt_ c81; clear c81; have H' := am_ H; clear H; go_wp2; go_meet
        case rel => exact ⟨_, (true), rfs_, H', ⟨by have := HJ29.out; have := HJ63.out; first | omega | exact Nat.le_refl _⟩, ⟨blk_⟩, ⟨blk_⟩, ⟨blk_⟩, ⟨bel_⟩⟩
       rw [if_neg c81] at H; have c81b0 : decide (10000 < t375) = false := df_ c81; clear c81; have H' := am_ H; clear H; go_wp2; go_meet
       case rel => exact ⟨_, (decide (t375 < (-10000))), rfs_, H', ⟨by have := HJ29.out; have := HJ63.out; first | omega | exact Nat.le_refl _⟩, ⟨blk_⟩, ⟨blk_⟩, ⟨blk_⟩, ⟨bel_⟩⟩
      rw [if_neg c80] at H; have c80b0 : (t377 == 0) = false := beq_eq_false_iff_ne.mpr c80; have c80b1 : (t377 != 0) = true := bne_iff_ne.mpr c80; (first | rw [c80b0] | (simp only [i64_w, i32_w]; rw [c80b0]) | skip)
      have H' := am_ H; clear H; go_wp2; go_meet
      case rel => exact ⟨_, (true), rfs_, H', ⟨by have := HJ29.out; have := HJ63.out; first | omega | exact Nat.le_refl _⟩, ⟨blk_⟩, ⟨blk_⟩, ⟨blk_⟩, ⟨bel_⟩⟩
     clear HC78; try clear c76b0
     obtain ⟨kq, x111_77, rfl, HA, HJ77, BK360, BK361, BK373, HB⟩ := hcut
     cases kq with
     | zero => exact absurd HA.out (by simp [r07_Read.j6])
     | succ kj77 =>
      have H := HA.out; clear HA; simp only [r07_Read.j6] at H; by_cases c82 : x111_77 = true
      ·subst c82; rw [if_pos rfl] at H; simp only [Option.some.injEq, Prod.mk.injEq] at H; obtain ⟨rfl, rfl, rfl, rfl, rfl⟩ := H; have hnb83 := NB361_360.out; have hnc83 := NB360_361.out; have hnb84 := NB361_373.out; have hnc84 := NB373_361.out; obtain ⟨hcz85_0, hcz85_1, hcz85_2⟩ := c3_ BK361; obtain ⟨hfz85_0, hfz85_1, hfz85_2⟩ := f3_ BK361; have hnb86 := NB360_373.out; have hnc86 := NB373_360.out; obtain ⟨hcz87_0, hcz87_1, hcz87_2⟩ := c3_ BK360; obtain ⟨hfz87_0, hfz87_1, hfz87_2⟩ := f3_ BK360; go_wp2; refine bodyPost_ret (results_ctt rfl _ _ gb360 26 #[.int .i64 0, .int .i64 0, .string (⟨#[]⟩ : ByteArray)] (0, 0) _ rfl (bch_) Try.underlying26 rfl (by kernel_rfl)) rfl ?_
       exact ⟨rsl_, bel_⟩
      replace c82 := Bool.eq_false_iff.mpr c82; subst c82; rw [if_neg (show ¬ (false = true) by decide)] at H; by_cases c88 : t375 = 0
      ·rw [if_pos c88] at H; have c88b0 : (t375 == 0) = true := beq_iff_eq.mpr c88; have c88b1 : (t375 != 0) = false := bne_eq_false_iff_eq.mpr c88; clear c88; simp only [Option.some.injEq, Prod.mk.injEq] at H; obtain ⟨rfl, rfl, rfl, rfl, rfl⟩ := H; have hnb89 := NB361_360.out; have hnc89 := NB360_361.out; have hnb90 := NB361_373.out; have hnc90 := NB373_361.out; obtain ⟨hcz91_0, hcz91_1, hcz91_2⟩ := c3_ BK361; obtain ⟨hfz91_0, hfz91_1, hfz91_2⟩ := f3_ BK361; have hnb92 := NB360_373.out; have hnc92 := NB373_360.out; obtain ⟨hcz93_0, hcz93_1, hcz93_2⟩ := c3_ BK360; obtain ⟨hfz93_0, hfz93_1, hfz93_2⟩ := f3_ BK360; go_wp2; refine bodyPost_ret (results_ctt rfl _ _ gb360 26 #[.int .i64 0, .int .i64 0, .string (⟨#[]⟩ : ByteArray)] (0, 0) _ rfl (bch_) Try.underlying26 rfl (by kernel_rfl)) rfl ?_
       exact ⟨rsl_, bel_⟩
      rw [if_neg c88] at H; have c88b0 : (t375 == 0) = false := beq_eq_false_iff_ne.mpr c88; have c88b1 : (t375 != 0) = true := bne_iff_ne.mpr c88; by_cases c94 : t375 < 0
      ·rw [if_pos c94] at H; have c94b0 : decide (t375 < 0) = true := dt_ c94; clear c94; by_cases c95 : x14_29 ≥ 0
       ·rw [if_pos c95] at H; have c95b0 : decide (0 ≤ x14_29) = true := dt_ c95; clear c95; simp only [Option.some.injEq, Prod.mk.injEq] at H; obtain ⟨rfl, rfl, rfl, rfl, rfl⟩ := H; have hnb96 := NB361_360.out; have hnc96 := NB360_361.out; have hnb97 := NB361_373.out; have hnc97 := NB373_361.out; obtain ⟨hcz98_0, hcz98_1, hcz98_2⟩ := c3_ BK361; obtain ⟨hfz98_0, hfz98_1, hfz98_2⟩ := f3_ BK361; have hnb99 := NB360_373.out; have hnc99 := NB373_360.out; obtain ⟨hcz100_0, hcz100_1, hcz100_2⟩ := c3_ BK360; obtain ⟨hfz100_0, hfz100_1, hfz100_2⟩ := f3_ BK360; go_wp2; refine bodyPost_ret (results_ctt rfl _ _ gb360 26 #[.int .i64 0, .int .i64 0, .string (⟨#[]⟩ : ByteArray)] (0, 0) _ rfl (bch_) Try.underlying26 rfl (by kernel_rfl)) rfl ?_
        exact ⟨rsl_, bel_⟩
       rw [if_neg c95] at H; have c95b0 : decide (0 ≤ x14_29) = false := df_ c95; clear c95; have H' := am_ H; clear H; have hnb101 := NB373_360.out; have hnc101 := NB360_373.out; have hnb102 := NB373_361.out; have hnc102 := NB361_373.out; obtain ⟨hcz103_0, hcz103_1, hcz103_2⟩ := c3_ BK373; obtain ⟨hfz103_0, hfz103_1, hfz103_2⟩ := f3_ BK373; go_wp2; go_meet
       case rel => exact ⟨_, (0), (0), ((⟨#[]⟩ : ByteArray)), (2), (t375), H', ⟨by have := HJ29.out; have := HJ63.out; have := HJ77.out; first | omega | exact Nat.le_refl _⟩, ⟨bch_⟩, ⟨bch_⟩, ⟨bch_⟩, ⟨bel_⟩⟩
      rw [if_neg c94] at H; have c94b0 : decide (t375 < 0) = false := df_ c94; clear c94; have H' := am_ H; clear H; have hnb104 := NB373_360.out; have hnc104 := NB360_373.out; have hnb105 := NB373_361.out; have hnc105 := NB361_373.out; obtain ⟨hcz106_0, hcz106_1, hcz106_2⟩ := c3_ BK373; obtain ⟨hfz106_0, hfz106_1, hfz106_2⟩ := f3_ BK373; go_wp2; go_meet
      case rel => exact ⟨_, (0), (0), ((⟨#[]⟩ : ByteArray)), (2), (t375), H', ⟨by have := HJ29.out; have := HJ63.out; have := HJ77.out; first | omega | exact Nat.le_refl _⟩, ⟨bch_⟩, ⟨bch_⟩, ⟨bch_⟩, ⟨bel_⟩⟩
    rw [if_neg c76] at H; have c76b0 : decide (0 ≤ x12_29) = false := df_ c76; clear c76; (first | rw [c76b0] | (simp only [i64_w, i32_w]; rw [c76b0]) | skip)
    have H' := am_ H; clear H; go_wp2; go_meet
    case rel => exact ⟨_, (0), (0), ((⟨#[]⟩ : ByteArray)), (3), (0), H', ⟨by have := HJ29.out; have := HJ63.out; first | omega | exact Nat.le_refl _⟩, ⟨blk_⟩, ⟨blk_⟩, ⟨blk_⟩, ⟨bel_⟩⟩
   clear HC75; obtain ⟨kq, x361000_74, x361001_74, x361002_74, x374000_74, x374001_74, HA, HJ74, BK360, BK361, BK373, HB⟩ := hcut
   cases kq with
   | zero => exact absurd HA.out (by simp [r07_Read.j7])
   | succ kj74 =>
    have H := HA.out; clear HA; simp only [r07_Read.j7] at H; by_cases c107 : x14_29 ≥ 0
    ·rw [if_pos c107] at H; have c107b0 : decide (0 ≤ x14_29) = true := dt_ c107; clear c107; have HC108 := am_ H; clear H; go_upto_region 35 with (fail)
     go_cut [136] (fun v136 wc => ∃ (kq : Nat) (x136_107 : Bool), v136 = .bool x136_107 ∧ Aside0 (r07_Read.j8 kq x12_29 x15_29 x136_107 0 0 (⟨#[]⟩ : ByteArray) x374000_74 x374001_74 x374002_63 = some (r1, r2, r3, r4, r5)) ∧ Aside0 (kq ≤ kj74) ∧ Aside0 (wc.heap[gb360]? = some (.cells #[.int .i64 x361000_74, .int .i64 x361001_74, .string x361002_74] 26 (0, 0))) ∧ Aside0 (wc.heap[gb361]? = some (.cells #[.int .i64 0, .int .i64 0, .string (⟨#[]⟩ : ByteArray)] 26 (0, 0))) ∧ Aside0 (wc.heap[gb373]? = some (.cells #[.int .i64 x374000_74, .int .i64 x374001_74, .string x374002_63] 26 (0, 0))) ∧ Aside0 (Below w.heap.size w wc))
     case first =>
      have H := HC108.out; clear HC108; by_cases c109 : x12_29 < 0
      ·rw [if_pos c109] at H; have c109b0 : decide (x12_29 < 0) = true := dt_ c109; clear c109; (first | rw [c109b0] | (simp only [i64_w, i32_w]; rw [c109b0]) | skip)
       have H' := am_ H; clear H; go_wp2; go_meet
       case rel => exact ⟨_, (decide (x13_29 < 0)), rfs_, H', ⟨by have := HJ29.out; have := HJ63.out; have := HJ74.out; first | omega | exact Nat.le_refl _⟩, ⟨blk_⟩, ⟨blk_⟩, ⟨blk_⟩, ⟨bel_⟩⟩
      rw [if_neg c109] at H; have c109b0 : decide (x12_29 < 0) = false := df_ c109; clear c109; (first | rw [c109b0] | (simp only [i64_w, i32_w]; rw [c109b0]) | skip)
      have H' := am_ H; clear H; go_wp2; go_meet
      case rel => exact ⟨_, (false), rfs_, H', ⟨by have := HJ29.out; have := HJ63.out; have := HJ74.out; first | omega | exact Nat.le_refl _⟩, ⟨blk_⟩, ⟨blk_⟩, ⟨blk_⟩, ⟨bel_⟩⟩
     clear HC108; try clear c107b0
     obtain ⟨kq, x136_107, rfl, HA, HJ107, BK360, BK361, BK373, HB⟩ := hcut
     cases kq with
     | zero => exact absurd HA.out (by simp [r07_Read.j8])
     | succ kj107 =>
      have H := HA.out; clear HA; simp only [r07_Read.j8] at H; by_cases c110 : x136_107 = true
      ·subst c110; rw [if_pos rfl] at H; simp only [Option.some.injEq, Prod.mk.injEq] at H; obtain ⟨rfl, rfl, rfl, rfl, rfl⟩ := H; have hnb111 := NB361_360.out; have hnc111 := NB360_361.out; have hnb112 := NB361_373.out; have hnc112 := NB373_361.out; obtain ⟨hcz113_0, hcz113_1, hcz113_2⟩ := c3_ BK361; obtain ⟨hfz113_0, hfz113_1, hfz113_2⟩ := f3_ BK361; have hnb114 := NB360_373.out; have hnc114 := NB373_360.out; obtain ⟨hcz115_0, hcz115_1, hcz115_2⟩ := c3_ BK360; obtain ⟨hfz115_0, hfz115_1, hfz115_2⟩ := f3_ BK360; go_wp2; refine bodyPost_ret (results_ctt rfl _ _ gb360 26 #[.int .i64 0, .int .i64 0, .string (⟨#[]⟩ : ByteArray)] (0, 0) _ rfl (bch_) Try.underlying26 rfl (by kernel_rfl)) rfl ?_
       exact ⟨rsl_, bel_⟩
      replace c110 := Bool.eq_false_iff.mpr c110; subst c110; rw [if_neg (show ¬ (false = true) by decide)] at H; by_cases c116 : x12_29 < 0
      ·rw [if_pos c116] at H; have c116b0 : decide (x12_29 < 0) = true := dt_ c116; clear c116; simp only [Option.some.injEq, Prod.mk.injEq] at H; obtain ⟨rfl, rfl, rfl, rfl, rfl⟩ := H; have hnb117 := NB373_360.out; have hnc117 := NB360_373.out; have hnb118 := NB373_361.out; have hnc118 := NB361_373.out; obtain ⟨hcz119_0, hcz119_1, hcz119_2⟩ := c3_ BK373; obtain ⟨hfz119_0, hfz119_1, hfz119_2⟩ := f3_ BK373; have hnb120 := NB360_361.out; have hnc120 := NB361_360.out; obtain ⟨hcz121_0, hcz121_1, hcz121_2⟩ := c3_ BK360; obtain ⟨hfz121_0, hfz121_1, hfz121_2⟩ := f3_ BK360; go_wp2; refine bodyPost_ret (results_ctt rfl _ _ gb360 26 #[.int .i64 4, .int .i64 1, .string x374002_63] (0, 0) _ rfl (bch_) Try.underlying26 rfl (by kernel_rfl)) rfl ?_
       exact ⟨rsl_, bel_⟩
      rw [if_neg c116] at H; have c116b0 : decide (x12_29 < 0) = false := df_ c116; clear c116; simp only [Option.some.injEq, Prod.mk.injEq] at H; obtain ⟨rfl, rfl, rfl, rfl, rfl⟩ := H; have hnb122 := NB373_360.out; have hnc122 := NB360_373.out; have hnb123 := NB373_361.out; have hnc123 := NB361_373.out; obtain ⟨hcz124_0, hcz124_1, hcz124_2⟩ := c3_ BK373; obtain ⟨hfz124_0, hfz124_1, hfz124_2⟩ := f3_ BK373; have hnb125 := NB360_361.out; have hnc125 := NB361_360.out; obtain ⟨hcz126_0, hcz126_1, hcz126_2⟩ := c3_ BK360; obtain ⟨hfz126_0, hfz126_1, hfz126_2⟩ := f3_ BK360; go_wp2; refine bodyPost_ret (results_ctt rfl _ _ gb360 26 #[.int .i64 4, .int .i64 x374001_74, .string x374002_63] (0, 0) _ rfl (bch_) Try.underlying26 rfl (by kernel_rfl)) rfl ?_
      exact ⟨rsl_, bel_⟩
    rw [if_neg c107] at H; have c107b0 : decide (0 ≤ x14_29) = false := df_ c107; clear c107; simp only [Option.some.injEq, Prod.mk.injEq] at H; obtain ⟨rfl, rfl, rfl, rfl, rfl⟩ := H; have hnb127 := NB373_360.out; have hnc127 := NB360_373.out; have hnb128 := NB373_361.out; have hnc128 := NB361_373.out; obtain ⟨hcz129_0, hcz129_1, hcz129_2⟩ := c3_ BK373; obtain ⟨hfz129_0, hfz129_1, hfz129_2⟩ := f3_ BK373; have hnb130 := NB360_361.out; have hnc130 := NB361_360.out; obtain ⟨hcz131_0, hcz131_1, hcz131_2⟩ := c3_ BK360; obtain ⟨hfz131_0, hfz131_1, hfz131_2⟩ := f3_ BK360; go_wp2; refine bodyPost_ret (results_ctt rfl _ _ gb360 26 #[.int .i64 x374000_74, .int .i64 x374001_74, .string x374002_63] (0, 0) _ rfl (bch_) Try.underlying26 rfl (by kernel_rfl)) rfl ?_
    exact ⟨rsl_, bel_⟩


/-! ### r05_Sign: function 38 -/
def r05_Sign.f (l0 : List (S43)) (a1 : Int) (a2 : ByteArray) : Option (Bool) := (r05_Word.f l0 a1).bind fun bt378 => (if bt378.1 = 7 then (some (bt378.2.2.1.toList == a2.toList)) else (some false))
set_option maxHeartbeats 8000000 in
theorem r05_Sign.calls (A0 : Option Addr) (c0 : Nat) (l0 : List (S43)) (a1 : Int) (a2 : ByteArray) (r : Bool) (w : World) (hr0 : Kd.C k43 w A0 l0.length l0) (hc0 : l0.length ≤ c0) (h : r05_Sign.f l0 a1 a2 = some r) :
  Calls Try.prog 38 #[.slice A0 l0.length c0, .int .i64 a1, .string a2] w fun e w' => e = .returned (.bool r) ∧ Below w.heap.size w w' := by
 have hu43 := Try.underlying43; have HR0 := am_ hr0; have HC0 := am_ hc0; clear hr0 hc0; have HB := am_ (Below.refl w.heap.size w); have H : ((r05_Word.f l0 a1).bind fun bt378 => (if bt378.1 = 7 then (some (bt378.2.2.1.toList == a2.toList)) else (some false))) = some r := h; clear h; replace H := bs_ H; obtain ⟨⟨t378, t379, t380, t381⟩, A40, H⟩ := H; try dsimp only at H
 have A4 := am_ A40; clear A40; by_cases c5 : t378 = 7
 ·rw [if_pos c5] at H; have c5b0 : (t378 == 7) = true := beq_iff_eq.mpr c5; have c5b1 : (t378 != 7) = false := bne_eq_false_iff_eq.mpr c5; clear c5; obtain rfl := si_ H; go_enter Try.func38, Try.ntmps38
  go_wp2_with (first | ((with_reducible refine gate_callee (f := 33) rfl ?_); refine goesL_ (some 10) rfl rfl Try.func33 (by kernel_rfl) rfl #[.slice A0 l0.length c0, .int .i64 a1] rfl goa_ ?_; (with_reducible refine (r05_Word.calls _ _ l0 a1 t378 t379 t380 t381 _ ?side1 ?side2 A4.out).mono ?_); (case side1 => exact cin_); (case side2 => exact HC0.out); rintro e w6 ⟨rfl, hb⟩; refine ⟨_, rfl, ?_⟩; replace HB := am_ (below_step bel_ hb); clear hb) | ((with_reducible refine gate_dst (N := 7) rfl ?_); refine box_event ?hg (N := 7) ?hd (cs := #[.int .i64 0, .int .i64 0, .string (⟨#[]⟩ : ByteArray), .string (⟨#[]⟩ : ByteArray)]) (t := 43) ?hr ?_; (case hd => rfl); (case hg => rfl); (case hr => first | (go_simp; done) | (go_simp; rfl)); intro gb382 hg w7 hbox hb; have BK382 := am_ (hbox); have GW382 := am_ ((bsz_ hg : w.heap.size ≤ gb382)); have GE382 := am_ ((bsz_ hg : w.heap.size ≤ gb382)); replace HB := am_ (below_step bel_ hb); clear hb hbox hg; obtain ⟨hcz8_0, hcz8_1, hcz8_2, hcz8_3⟩ := c4_ BK382; obtain ⟨hfz8_0, hfz8_1, hfz8_2, hfz8_3⟩ := f4_ BK382))
  go_ret
  exact ⟨rsl_, bel_⟩
 rw [if_neg c5] at H; have c5b0 : (t378 == 7) = false := beq_eq_false_iff_ne.mpr c5; have c5b1 : (t378 != 7) = true := bne_iff_ne.mpr c5; obtain rfl := si_ H; go_enter Try.func38, Try.ntmps38
 go_wp2_with (first | ((with_reducible refine gate_callee (f := 33) rfl ?_); refine goesL_ (some 10) rfl rfl Try.func33 (by kernel_rfl) rfl #[.slice A0 l0.length c0, .int .i64 a1] rfl goa_ ?_; (with_reducible refine (r05_Word.calls _ _ l0 a1 t378 t379 t380 t381 _ ?side1 ?side2 A4.out).mono ?_); (case side1 => exact cin_); (case side2 => exact HC0.out); rintro e w9 ⟨rfl, hb⟩; refine ⟨_, rfl, ?_⟩; replace HB := am_ (below_step bel_ hb); clear hb) | ((with_reducible refine gate_dst (N := 7) rfl ?_); refine box_event ?hg (N := 7) ?hd (cs := #[.int .i64 0, .int .i64 0, .string (⟨#[]⟩ : ByteArray), .string (⟨#[]⟩ : ByteArray)]) (t := 43) ?hr ?_; (case hd => rfl); (case hg => rfl); (case hr => first | (go_simp; done) | (go_simp; rfl)); intro gb382 hg w10 hbox hb; have BK382 := am_ (hbox); have GW382 := am_ ((bsz_ hg : w.heap.size ≤ gb382)); have GE382 := am_ ((bsz_ hg : w.heap.size ≤ gb382)); replace HB := am_ (below_step bel_ hb); clear hb hbox hg; obtain ⟨hcz11_0, hcz11_1, hcz11_2, hcz11_3⟩ := c4_ BK382; obtain ⟨hfz11_0, hfz11_1, hfz11_2, hfz11_3⟩ := f4_ BK382))
 go_ret
 exact ⟨rsl_, bel_⟩

/-! ### r07_Lines: function 25 -/
mutual
def r07_Lines.l0 : Nat → List (S43) → Int → Int → List (S26) → Option ((List (S26)) × Int × Int)
 | 0, _, _, _, _ => none
 | k + 1, x0, x2, x10, x12 => if (x12.length : Int) < x2 then ((r05_Sign.f x0 x10 (⟨#[47]⟩ : ByteArray)).bind fun t392 => (r07_Lines.j1 k x0 x2 x10 x12 t392)) else (r07_Lines.j1 k x0 x2 x10 x12 false)
def r07_Lines.j1 : Nat → List (S43) → Int → Int → List (S26) → Bool → Option ((List (S26)) × Int × Int)
 | 0, _, _, _, _, _ => none
 | k + 1, x0, x2, x10, x12, x34 => if x34 = true then ((r07_Read.f k x0 (wrap64 (x10 + 1))).bind fun bt393 => (if bt393.2.2.2.2 = 0 then (if x12.length < 4398046511104 then (r07_Lines.l0 k x0 x2 bt393.2.2.2.1 (x12 ++ [(⟨bt393.1, bt393.2.1, bt393.2.2.1⟩ : S26)])) else (none)) else (some (([] : List (S26)), bt393.2.2.2.1, bt393.2.2.2.2)))) else (some (x12, x10, 0))
end
def r07_Lines.f (k : Nat) (l0 : List (S43)) (a1 : Int) (a2 : Int) : Option ((List (S26)) × Int × Int) := (r07_Read.f k l0 a1).bind fun bt383 => (if bt383.2.2.2.2 = 0 then (r07_Lines.l0 k l0 a2 bt383.2.2.2.1 (([(⟨bt383.1, bt383.2.1, bt383.2.2.1⟩ : S26)] : List (S26)))) else (some (([] : List (S26)), bt383.2.2.2.1, bt383.2.2.2.2)))
theorem r07_Lines.mono_l : ∀ k, (∀ y0 y1 y2 y3, LeO (r07_Lines.l0 k y0 y1 y2 y3) (r07_Lines.l0 (k + 1) y0 y1 y2 y3)) ∧ (∀ y0 y1 y2 y3 y4, LeO (r07_Lines.j1 k y0 y1 y2 y3 y4) (r07_Lines.j1 (k + 1) y0 y1 y2 y3 y4))
 | 0 => ⟨fun _ _ _ _ r h => by simp [r07_Lines.l0] at h, fun _ _ _ _ _ r h => by simp [r07_Lines.j1] at h⟩
 | k + 1 => by
  obtain ⟨ih0, ih1⟩ := r07_Lines.mono_l k; refine ⟨?_, ?_⟩
  ·intro y0 y1 y2 y3; unfold r07_Lines.l0; repeat' first
   | (with_reducible exact ih0 _ _ _ _)
   | (with_reducible exact ih1 _ _ _ _ _)
   | (with_reducible exact r07_Read.mono _ _ _)
   | (with_reducible first | exact LeO.refl _ | exact LeO.none _ | refine LeO.ite ?_ ?_ | refine LeO.bind ?_ (fun _ => ?_))
  intro y0 y1 y2 y3 y4; unfold r07_Lines.j1; repeat' first
  | (with_reducible exact ih0 _ _ _ _)
  | (with_reducible exact ih1 _ _ _ _ _)
  | (with_reducible exact r07_Read.mono _ _ _)
  | (with_reducible first | exact LeO.refl _ | exact LeO.none _ | refine LeO.ite ?_ ?_ | refine LeO.bind ?_ (fun _ => ?_))
theorem r07_Lines.mono : ∀ a0 a1 a2 k, LeO (r07_Lines.f k a0 a1 a2) (r07_Lines.f (k + 1) a0 a1 a2) := by
 intro a0 a1 a2 k; obtain ⟨ih0, ih1⟩ := r07_Lines.mono_l k; unfold r07_Lines.f; repeat' first
   | (with_reducible exact ih0 _ _ _ _)
   | (with_reducible exact ih1 _ _ _ _ _)
   | (with_reducible exact r07_Read.mono _ _ _)
   | (with_reducible first | exact LeO.refl _ | exact LeO.none _ | refine LeO.ite ?_ ?_ | refine LeO.bind ?_ (fun _ => ?_))
set_option maxHeartbeats 8000000 in
theorem r07_Lines.calls (k : Nat) (A0 : Option Addr) (c0 : Nat) (l0 : List (S43)) (a1 : Int) (a2 : Int) (r1 : List (S26)) (r2 : Int) (r3 : Int) (w : World) (hr0 : Kd.C k43 w A0 l0.length l0) (hc0 : l0.length ≤ c0) (h : r07_Lines.f k l0 a1 a2 = some (r1, r2, r3)) :
  Calls Try.prog 25 #[.slice A0 l0.length c0, .int .i64 a1, .int .i64 a2] w fun e w' => ∃ v0_ : Value, e = .returned (.tuple #[v0_, .int .i64 r2, .int .i64 r3]) ∧ Kd.R k26 26 w' w.heap.size (fun _ => True) v0_ r1 ∧ Below w.heap.size w w' := by
 have hu26 := Try.underlying26; have HR0 := am_ hr0; have HC0 := am_ hc0; clear hr0 hc0; have HB := am_ (Below.refl w.heap.size w); have H : ((r07_Read.f k l0 a1).bind fun bt383 => (if bt383.2.2.2.2 = 0 then (r07_Lines.l0 k l0 a2 bt383.2.2.2.1 (([(⟨bt383.1, bt383.2.1, bt383.2.2.1⟩ : S26)] : List (S26)))) else (some (([] : List (S26)), bt383.2.2.2.1, bt383.2.2.2.2)))) = some (r1, r2, r3) := h; clear h; replace H := bs_ H; obtain ⟨⟨t383, t384, t385, t386, t387⟩, A40, H⟩ := H; try dsimp only at H
 have A4 := am_ A40; clear A40; by_cases c5 : t387 = 0
 ·rw [if_pos c5] at H; have c5b0 : (t387 == 0) = true := beq_iff_eq.mpr c5; have c5b1 : (t387 != 0) = false := bne_eq_false_iff_eq.mpr c5; clear c5; obtain ⟨y389, hy389⟩ : ∃ y_ : List (S26), y_ = (([(⟨t383, t384, t385⟩ : S26)] : List (S26))) := ⟨_, rfl⟩
  replace H : (r07_Lines.l0 k l0 a2 t386 y389) = some (r1, r2, r3) := by first | (rw [hy389]; with_reducible exact H) | (have H2_ := (Option.bind_some _ _).symm.trans H; rw [hy389]; with_reducible exact H2_) | (have H2_ := (Option.bind_some _ _).symm.trans H; with_reducible exact H2_) | with_reducible exact H | (rw [hy389]; exact H) | exact H
  have Ny389 := am_ hy389; clear hy389; have H' := am_ H; clear H; go_enter Try.func25, Try.ntmps25
  go_wp2_with (first | ((with_reducible refine gate_callee (f := 7) rfl ?_); refine goesL_ (some 16) rfl rfl Try.func7 (by kernel_rfl) rfl #[.slice A0 l0.length c0, .int .i64 a1] rfl goa_ ?_; (with_reducible refine (r07_Read.calls k _ _ l0 a1 t383 t384 t385 t386 t387 _ ?side1 ?side2 A4.out).mono ?_); (case side1 => exact cin_); (case side2 => exact HC0.out); rintro e w6 ⟨rfl, hb⟩; refine ⟨_, rfl, ?_⟩; replace HB := am_ (below_step bel_ hb); clear hb) | ((with_reducible refine gate_dst (N := 9) rfl ?_); refine box_event ?hg (N := 9) ?hd (cs := #[.int .i64 0, .int .i64 0, .string (⟨#[]⟩ : ByteArray)]) (t := 26) ?hr ?_; (case hd => rfl); (case hg => rfl); (case hr => first | (go_simp; done) | (go_simp; rfl)); intro gb388 hg w7 hbox hb; have BK388 := am_ (hbox); have GW388 := am_ ((bsz_ hg : w.heap.size ≤ gb388)); have GE388 := am_ ((bsz_ hg : w.heap.size ≤ gb388)); replace HB := am_ (below_step bel_ hb); clear hb hbox hg; obtain ⟨hcz8_0, hcz8_1, hcz8_2⟩ := c3_ BK388; obtain ⟨hfz8_0, hfz8_1, hfz8_2⟩ := f3_ BK388) | ((with_reducible refine gate_dst (N := 25) rfl ?_); refine Kd.R_lit k26 _ 26 ?hg (N := 25) ?hd (xs := ([(⟨t383, t384, t385⟩ : S26)] : List (S26))) (inner := [.int .i64 t383, .int .i64 t384, .string t385]) (ok := fun _ => True) (okp := fun _ => True) ?hr ?hp (fun _ hk => hk) trivial (Below.refl _ _) (Nat.le_refl _) (by simp) ?_; (case hd => rfl); (case hg => rfl); (case hr => first | (go_simp; done) | (go_simp; rfl)); (case hp => exact (Reps.c3 (show Kd.M k26 _ _ _ (⟨t383, t384, t385⟩ : S26) [.int .i64 t383, .int .i64 t384, .string t385] from (k26_mkM _ _ _ (⟨t383, t384, t385⟩ : S26) )) (Reps.none _ _))); intro v390 w9 ho10 hb hg_ hnew_; clear hg_ hnew_; (first | rw [← Ny389.out] at ho10 | (simp only [Int.reduceToNat] at ho10; rw [← Ny389.out] at ho10)); have HO391 := am_ (Kd.R_lower (Kd.R_newB ho10 (g := gb388) (o := .cells #[.int .i64 t383, .int .i64 t384, .string t385] 26 (0, 0)) (bch_)) (below_size bel_)); replace BK388 := am_ (blk_below (g := gb388) (o := .cells #[.int .i64 t383, .int .i64 t384, .string t385] 26 (0, 0)) (bch_) hb); replace HB := am_ (below_step bel_ hb); clear hb ho10))
  go_loopg [10, 12] k (fun kq v10 v12 w' => ∃ (x10_1 : Int) (x12_1 : List (S26)) (x389000_1 : Int) (x389001_1 : Int) (x389002_1 : ByteArray), v10 = .int .i64 x10_1 ∧ Aside0 (r07_Lines.l0 kq l0 a2 x10_1 x12_1 = some (r1, r2, r3)) ∧ Aside0 (kq ≤ k) ∧ Aside0 (Kd.R k26 26 w' w.heap.size (fun k_ => k_ ≠ gb388) v12 x12_1) ∧ Aside0 (w'.heap[gb388]? = some (.cells #[.int .i64 x389000_1, .int .i64 x389001_1, .string x389002_1] 26 (0, 0))) ∧ Aside0 (Below w.heap.size w w'))
  case atStart => exact ⟨(t386), (y389), (t383), (t384), (t385), rfs_, H', ⟨Nat.le_refl _⟩, ⟨by (with_reducible repeat (first | apply Kd.R_alloc | apply Kd.R_drewN | apply Kd.R_drew)); exact Kd.R_mono HO391.out (fun _ hk => hk.2)⟩, ⟨blk_⟩, ⟨bel_⟩⟩
  case round =>
   clear H'; try clear c5b0
   try clear c5b1
   try clear hcz8_0
   try clear hcz8_1
   try clear hcz8_2
   try clear hfz8_0
   try clear hfz8_1
   try clear hfz8_2
   obtain ⟨x10_1, x12_1, x389000_1, x389001_1, x389002_1, rfl, HA, HK1, HO_12, BK388, HB⟩ := hrel
   cases gk with
   | zero => exact absurd HA.out (by simp [r07_Lines.l0])
   | succ k1 =>
    have H := HA.out; clear HA; simp only [r07_Lines.l0] at H; have HC11 := am_ H; clear H; go_upto_region 5 with (fail)
    go_cut [34] (fun v34 wc => ∃ (kq : Nat) (x34_10 : Bool), v34 = .bool x34_10 ∧ Aside0 (r07_Lines.j1 kq l0 a2 x10_1 x12_1 x34_10 = some (r1, r2, r3)) ∧ Aside0 (kq ≤ k1) ∧ Aside0 (Kd.R k26 26 wc w.heap.size (fun k_ => k_ ≠ gb388) u12 x12_1) ∧ Aside0 (wc.heap[gb388]? = some (.cells #[.int .i64 x389000_1, .int .i64 x389001_1, .string x389002_1] 26 (0, 0))) ∧ Aside0 (Below w.heap.size w wc))
    case first =>
     have H := HC11.out; clear HC11; by_cases c12 : (x12_1.length : Int) < a2
     ·rw [if_pos c12] at H; have c12b0 : decide ((x12_1.length : Int) < a2) = true := dt_ c12; clear c12; (first | rw [c12b0] | (simp only [i64_w, i32_w]; rw [c12b0]) | skip)
      replace H := bs_ H; obtain ⟨t392, A130, H⟩ := H; try dsimp only at H
      have A13 := am_ A130; clear A130; have H' := am_ H; clear H; obtain ⟨Ao14, co14, eo14⟩ := Kd.R_slice HO_12.out; subst eo14; go_wp2_with (first | (go_at_call 38; (with_reducible refine (r05_Sign.calls _ _ l0 x10_1 (⟨#[47]⟩ : ByteArray) t392 _ ?side1 ?side2 A13.out).mono ?_); (case side1 => exact cin_); (case side2 => exact HC0.out); rintro e w15 ⟨rfl, hb⟩; replace HO_12 := am_ (Kd.R_below (row_ HO_12) hb); replace BK388 := blb_ BK388 hb; replace HB := am_ (below_step bel_ hb); clear hb))
      go_meet
      case rel => exact ⟨_, (t392), rfs_, H', ⟨by have := HK1.out; first | omega | exact Nat.le_refl _⟩, ⟨by (with_reducible repeat (first | apply Kd.R_alloc | apply Kd.R_drewN | apply Kd.R_drew)); exact HO_12.out⟩, ⟨blk_⟩, ⟨bel_⟩⟩
     rw [if_neg c12] at H; have c12b0 : decide ((x12_1.length : Int) < a2) = false := df_ c12; clear c12; (first | rw [c12b0] | (simp only [i64_w, i32_w]; rw [c12b0]) | skip)
     have H' := am_ H; clear H; obtain ⟨Ao16, co16, eo16⟩ := Kd.R_slice HO_12.out; subst eo16; go_wp2; go_meet
     case rel => exact ⟨_, (false), rfs_, H', ⟨by have := HK1.out; first | omega | exact Nat.le_refl _⟩, ⟨by (with_reducible repeat (first | apply Kd.R_alloc | apply Kd.R_drewN | apply Kd.R_drew)); exact HO_12.out⟩, ⟨blk_⟩, ⟨bel_⟩⟩
    clear HC11; obtain ⟨kq, x34_10, rfl, HA, HJ10, HO_12, BK388, HB⟩ := hcut
    cases kq with
    | zero => exact absurd HA.out (by simp [r07_Lines.j1])
    | succ kj10 =>
     have H := HA.out; clear HA; simp only [r07_Lines.j1] at H; by_cases c17 : x34_10 = true
     ·subst c17; rw [if_pos rfl] at H; replace H := bs_ H; obtain ⟨⟨t393, t394, t395, t396, t397⟩, A180, H⟩ := H; try dsimp only at H
      have A18 := am_ A180; clear A180; by_cases c19 : t397 = 0
      ·rw [if_pos c19] at H; have c19b0 : (t397 == 0) = true := beq_iff_eq.mpr c19; have c19b1 : (t397 != 0) = false := bne_eq_false_iff_eq.mpr c19; clear c19; by_cases c20 : x12_1.length < 4398046511104
       ·rw [if_pos c20] at H; have LMc20 := am_ c20; clear c20; obtain ⟨y398, hy398⟩ : ∃ y_ : List (S26), y_ = (x12_1 ++ [(⟨t393, t394, t395⟩ : S26)]) := ⟨_, rfl⟩
        replace H : (r07_Lines.l0 kj10 l0 a2 t396 y398) = some (r1, r2, r3) := by first | (rw [hy398]; with_reducible exact H) | (have H2_ := (Option.bind_some _ _).symm.trans H; rw [hy398]; with_reducible exact H2_) | (have H2_ := (Option.bind_some _ _).symm.trans H; with_reducible exact H2_) | with_reducible exact H | (rw [hy398]; exact H) | exact H
        have Ny398 := am_ hy398; clear hy398; have H' := am_ H; clear H; go_wp2_with (first | ((with_reducible refine gate_callee (f := 7) rfl ?_); refine goesL_ (some 39) rfl rfl Try.func7 (by kernel_rfl) rfl #[.slice A0 l0.length c0, .int .i64 (wrap64 (x10_1 + 1))] rfl goa_ ?_; (with_reducible refine (r07_Read.calls kj10 _ _ l0 (wrap64 (x10_1 + 1)) t393 t394 t395 t396 t397 _ ?side1 ?side2 A18.out).mono ?_); (case side1 => exact cin_); (case side2 => exact HC0.out); rintro e w21 ⟨rfl, hb⟩; refine ⟨_, rfl, ?_⟩; replace HO_12 := am_ (Kd.R_below (row_ HO_12) hb); replace BK388 := blb_ BK388 hb; replace HB := am_ (below_step bel_ hb); clear hb; obtain ⟨hcz22_0, hcz22_1, hcz22_2⟩ := c3_ BK388; obtain ⟨hfz22_0, hfz22_1, hfz22_2⟩ := f3_ BK388) | ((with_reducible refine gate_builtin (b := .append) (xs := #[.tmp 47, .tmp 49]) rfl ?_); at_builtin; refine Kd.R_append k26 (w0 := w) w.heap.size rfl (.tmp 47) (.tmp 49) 57 26 (.agg #[(.int .i64 0), (.int .i64 0), (.string ⟨#[]⟩)]) 32 rfl Try.underlying57 info26 rfl (by decide) (by omega) u12 x12_1 (⟨t393, t394, t395⟩ : S26) [.int .i64 t393, .int .i64 t394, .string t395] (fun k_ => k_ ≠ gb388) (fun _ => False) rfl (by first | (go_simp; done) | (go_simp; rfl)) ?aP (fun _ hk => hk.elim) ?aF ?aO ?aB ?aS ?aL ?_; (case aP => exact k26_mkM _ _ _ (⟨t393, t394, t395⟩ : S26)); (case aB => exact bel_); (case aF => exact (fun k_ hk => Kd.freshB (g := gb388) (o := .cells #[.int .i64 t393, .int .i64 t394, .string t395] 26 (0, 0)) (bch_) k_ hk)); (case aO => exact (by (with_reducible repeat (first | apply Kd.R_alloc | apply Kd.R_drewN | apply Kd.R_drew)); exact Kd.R_mono (Kd.R_far (p := ⟨gb388, 2, none⟩) (Kd.R_far (p := ⟨gb388, 1, none⟩) (Kd.R_far (p := ⟨gb388, 0, none⟩) (Kd.R_mono HO_12.out (fun k_ hk => (⟨hk, hk⟩ : _ ∧ k_ ≠ gb388))) (fun _ hk => hk.2) (.int .i64 t393)) (fun _ hk => hk.2) (.int .i64 t394)) (fun _ hk => hk.2) (.string t395)) (fun _ hk => hk.1))); (case aS => exact (below_size bel_)); (case aL => have := LMc20.out; omega); intro v399 w23 ho hb hg hat; rw [← Ny398.out] at ho; have n0_ := am_ (blk_grown (g := gb388) (o := .cells #[.int .i64 t393, .int .i64 t394, .string t395] 26 (0, 0)) (bch_) hg (Kd.R_away HO_12.out (fun _ hk => hk))); have n1_ := am_ (hb); have n2_ := am_ (ho); clear BK388; clear HB; clear HO_12; have BK388 := n0_; have HB := n1_; have HO400 := n2_; clear n0_ n1_ n2_; clear ho hb hg hat))
        go_roundg kj10
        case measure => have := HK1.out; have := HJ10.out; omega
        case rel => exact ⟨(t396), (y398), (t393), (t394), (t395), rfs_, H', ⟨by have := HK1.out; have := HJ10.out; omega⟩, ⟨by (with_reducible repeat (first | apply Kd.R_alloc | apply Kd.R_drewN | apply Kd.R_drew)); exact HO400.out⟩, ⟨blk_⟩, ⟨bel_⟩⟩
       rw [if_neg c20] at H; exact absurd H (by simp)
      rw [if_neg c19] at H; have c19b0 : (t397 == 0) = false := beq_eq_false_iff_ne.mpr c19; have c19b1 : (t397 != 0) = true := bne_iff_ne.mpr c19; simp only [Option.some.injEq, Prod.mk.injEq] at H; obtain ⟨rfl, rfl, rfl⟩ := H; go_wp2_with (first | ((with_reducible refine gate_callee (f := 7) rfl ?_); refine goesL_ (some 39) rfl rfl Try.func7 (by kernel_rfl) rfl #[.slice A0 l0.length c0, .int .i64 (wrap64 (x10_1 + 1))] rfl goa_ ?_; (with_reducible refine (r07_Read.calls kj10 _ _ l0 (wrap64 (x10_1 + 1)) t393 t394 t395 t396 t397 _ ?side1 ?side2 A18.out).mono ?_); (case side1 => exact cin_); (case side2 => exact HC0.out); rintro e w24 ⟨rfl, hb⟩; refine ⟨_, rfl, ?_⟩; replace HO_12 := am_ (Kd.R_below (row_ HO_12) hb); replace BK388 := blb_ BK388 hb; replace HB := am_ (below_step bel_ hb); clear hb; obtain ⟨hcz25_0, hcz25_1, hcz25_2⟩ := c3_ BK388; obtain ⟨hfz25_0, hfz25_1, hfz25_2⟩ := f3_ BK388))
      go_ret3
      exact ⟨_, rsl_, by first | exact Kd.R_nil _ _ _ _ _ | exact Kd.N_nil _ _ _ _ _ | exact Kd.V_nil _ _ _ _ _ | exact Kd.Q_nil _ _ _ _ _ | exact Kd.S_nil _ _ _ _ _, bel_⟩
     replace c17 := Bool.eq_false_iff.mpr c17; subst c17; rw [if_neg (show ¬ (false = true) by decide)] at H; simp only [Option.some.injEq, Prod.mk.injEq] at H; obtain ⟨rfl, rfl, rfl⟩ := H; go_wp2; go_ret3
     exact ⟨_, rsl_, by (with_reducible repeat (first | apply Kd.R_alloc | apply Kd.R_drewN | apply Kd.R_drew)); exact Kd.R_mono HO_12.out (fun _ hk => trivial), bel_⟩
 rw [if_neg c5] at H; have c5b0 : (t387 == 0) = false := beq_eq_false_iff_ne.mpr c5; have c5b1 : (t387 != 0) = true := bne_iff_ne.mpr c5; simp only [Option.some.injEq, Prod.mk.injEq] at H; obtain ⟨rfl, rfl, rfl⟩ := H; go_enter Try.func25, Try.ntmps25
 go_wp2_with (first | ((with_reducible refine gate_callee (f := 7) rfl ?_); refine goesL_ (some 16) rfl rfl Try.func7 (by kernel_rfl) rfl #[.slice A0 l0.length c0, .int .i64 a1] rfl goa_ ?_; (with_reducible refine (r07_Read.calls k _ _ l0 a1 t383 t384 t385 t386 t387 _ ?side1 ?side2 A4.out).mono ?_); (case side1 => exact cin_); (case side2 => exact HC0.out); rintro e w26 ⟨rfl, hb⟩; refine ⟨_, rfl, ?_⟩; replace HB := am_ (below_step bel_ hb); clear hb) | ((with_reducible refine gate_dst (N := 9) rfl ?_); refine box_event ?hg (N := 9) ?hd (cs := #[.int .i64 0, .int .i64 0, .string (⟨#[]⟩ : ByteArray)]) (t := 26) ?hr ?_; (case hd => rfl); (case hg => rfl); (case hr => first | (go_simp; done) | (go_simp; rfl)); intro gb388 hg w27 hbox hb; have BK388 := am_ (hbox); have GW388 := am_ ((bsz_ hg : w.heap.size ≤ gb388)); have GE388 := am_ ((bsz_ hg : w.heap.size ≤ gb388)); replace HB := am_ (below_step bel_ hb); clear hb hbox hg; obtain ⟨hcz28_0, hcz28_1, hcz28_2⟩ := c3_ BK388; obtain ⟨hfz28_0, hfz28_1, hfz28_2⟩ := f3_ BK388))
 go_ret3
 exact ⟨_, rsl_, by first | exact Kd.R_nil _ _ _ _ _ | exact Kd.N_nil _ _ _ _ _ | exact Kd.V_nil _ _ _ _ _ | exact Kd.Q_nil _ _ _ _ _ | exact Kd.S_nil _ _ _ _ _, bel_⟩

/-! ### r07_Other: function 26 -/
def r07_Other.f (a0_0 : Int) (a0_1 : Int) (a0_2 : ByteArray) : Option (Int × Int × ByteArray) := if a0_0 = 3 then (some (a0_0, a0_1, a0_2)) else (some (1, 0, (⟨#[]⟩ : ByteArray)))
set_option maxHeartbeats 8000000 in
theorem r07_Other.calls (a0_0 : Int) (a0_1 : Int) (a0_2 : ByteArray) (r1 : Int) (r2 : Int) (r3 : ByteArray) (w : World) (h : r07_Other.f a0_0 a0_1 a0_2 = some (r1, r2, r3)) :
  Calls Try.prog 26 #[.agg #[.int .i64 a0_0, .int .i64 a0_1, .string a0_2]] w fun e w' => e = .returned (.agg #[.int .i64 r1, .int .i64 r2, .string r3]) ∧ Below w.heap.size w w' := by
 have hu26 := Try.underlying26; have HB := am_ (Below.refl w.heap.size w); have H : (if a0_0 = 3 then (some (a0_0, a0_1, a0_2)) else (some (1, 0, (⟨#[]⟩ : ByteArray)))) = some (r1, r2, r3) := h; clear h; by_cases c2 : a0_0 = 3
 ·rw [if_pos c2] at H; have c2b0 : (a0_0 == 3) = true := beq_iff_eq.mpr c2; have c2b1 : (a0_0 != 3) = false := bne_eq_false_iff_eq.mpr c2; clear c2; simp only [Option.some.injEq, Prod.mk.injEq] at H; obtain ⟨rfl, rfl, rfl⟩ := H; go_enter Try.func26, Try.ntmps26
  go_wp2_with (first | ((with_reducible refine gate_dst (N := 1) rfl ?_); refine box_event ?hg (N := 1) ?hd (cs := #[.int .i64 a0_0, .int .i64 a0_1, .string a0_2]) (t := 26) ?hr ?_; (case hd => rfl); (case hg => rfl); (case hr => first | (go_simp; done) | (go_simp; rfl)); intro gb401 hg w3 hbox hb; have BK401 := am_ (hbox); have GW401 := am_ ((bsz_ hg : w.heap.size ≤ gb401)); have GE401 := am_ ((bsz_ hg : w.heap.size ≤ gb401)); replace HB := am_ (below_step bel_ hb); clear hb hbox hg) | ((with_reducible refine gate_dst (N := 2) rfl ?_); refine box_event ?hg (N := 2) ?hd (cs := #[.int .i64 0, .int .i64 0, .string (⟨#[]⟩ : ByteArray)]) (t := 26) ?hr ?_; (case hd => rfl); (case hg => rfl); (case hr => first | (go_simp; done) | (go_simp; rfl)); intro gb402 hg w4 hbox hb; have BK402 := am_ (hbox); have GW402 := am_ ((bsz_ hg : w.heap.size ≤ gb402)); have GE402 := am_ ((bsz_ hg : w.heap.size ≤ gb402)); have NB401_402 := am_ (bne_ BK401 hg : gb401 ≠ gb402); have NB402_401 := am_ (bng_ BK401 hg : gb402 ≠ gb401); replace BK401 := blb_ BK401 hb; replace HB := am_ (below_step bel_ hb); clear hb hbox hg; have hnb5 := NB401_402.out; have hnc5 := NB402_401.out; obtain ⟨hcz6_0, hcz6_1, hcz6_2⟩ := c3_ BK401; obtain ⟨hfz6_0, hfz6_1, hfz6_2⟩ := f3_ BK401; obtain ⟨hcz7_0, hcz7_1, hcz7_2⟩ := c3_ BK402; obtain ⟨hfz7_0, hfz7_1, hfz7_2⟩ := f3_ BK402))
  refine bodyPost_ret (results_cell_row rfl _ _ gb402 26 #[.int .i64 a0_0, .int .i64 a0_1, .string a0_2] (0, 0) _ rfl (bch_) Try.underlying26 rfl (by kernel_rfl)) rfl ?_
  exact ⟨rsl_, bel_⟩
 rw [if_neg c2] at H; have c2b0 : (a0_0 == 3) = false := beq_eq_false_iff_ne.mpr c2; have c2b1 : (a0_0 != 3) = true := bne_iff_ne.mpr c2; simp only [Option.some.injEq, Prod.mk.injEq] at H; obtain ⟨rfl, rfl, rfl⟩ := H; go_enter Try.func26, Try.ntmps26
 go_wp2_with (first | ((with_reducible refine gate_dst (N := 1) rfl ?_); refine box_event ?hg (N := 1) ?hd (cs := #[.int .i64 a0_0, .int .i64 a0_1, .string a0_2]) (t := 26) ?hr ?_; (case hd => rfl); (case hg => rfl); (case hr => first | (go_simp; done) | (go_simp; rfl)); intro gb401 hg w8 hbox hb; have BK401 := am_ (hbox); have GW401 := am_ ((bsz_ hg : w.heap.size ≤ gb401)); have GE401 := am_ ((bsz_ hg : w.heap.size ≤ gb401)); replace HB := am_ (below_step bel_ hb); clear hb hbox hg) | ((with_reducible refine gate_dst (N := 2) rfl ?_); refine box_event ?hg (N := 2) ?hd (cs := #[.int .i64 0, .int .i64 0, .string (⟨#[]⟩ : ByteArray)]) (t := 26) ?hr ?_; (case hd => rfl); (case hg => rfl); (case hr => first | (go_simp; done) | (go_simp; rfl)); intro gb402 hg w9 hbox hb; have BK402 := am_ (hbox); have GW402 := am_ ((bsz_ hg : w.heap.size ≤ gb402)); have GE402 := am_ ((bsz_ hg : w.heap.size ≤ gb402)); have NB401_402 := am_ (bne_ BK401 hg : gb401 ≠ gb402); have NB402_401 := am_ (bng_ BK401 hg : gb402 ≠ gb401); replace BK401 := blb_ BK401 hb; replace HB := am_ (below_step bel_ hb); clear hb hbox hg; have hnb10 := NB401_402.out; have hnc10 := NB402_401.out; obtain ⟨hcz11_0, hcz11_1, hcz11_2⟩ := c3_ BK401; obtain ⟨hfz11_0, hfz11_1, hfz11_2⟩ := f3_ BK401; obtain ⟨hcz12_0, hcz12_1, hcz12_2⟩ := c3_ BK402; obtain ⟨hfz12_0, hfz12_1, hfz12_2⟩ := f3_ BK402))
 refine bodyPost_ret (results_cell_row rfl _ _ gb402 26 #[.int .i64 1, .int .i64 0, .string (⟨#[]⟩ : ByteArray)] (0, 0) _ rfl (bch_) Try.underlying26 rfl (by kernel_rfl)) rfl ?_
 exact ⟨rsl_, bel_⟩


/-! ### r07_Pair: function 9 -/
def r07_Pair.f (k : Nat) (l0 : List (S43)) (a1 : Int) : Option (Int × Int × ByteArray × Int × Int × ByteArray × Int × Int) := (r07_Lines.f k l0 a1 2).bind fun bt405 => (if bt405.2.2 = 0 then (if (bt405.1.length : Int) = 1 then (if 0 < (bt405.1.length : Int) then ((r07_Other.f ((rd_T26 bt405.1 0).f0) ((rd_T26 bt405.1 0).f1) ((rd_T26 bt405.1 0).f2)).bind fun bt412 => (some ((rd_T26 bt405.1 0).f0, (rd_T26 bt405.1 0).f1, (rd_T26 bt405.1 0).f2, bt412.1, bt412.2.1, bt412.2.2, bt405.2.1, 0))) else (none)) else (if 0 < (bt405.1.length : Int) then (if 1 < (bt405.1.length : Int) then (some ((rd_T26 bt405.1 0).f0, (rd_T26 bt405.1 0).f1, (rd_T26 bt405.1 0).f2, (rd_T26 bt405.1 1).f0, (rd_T26 bt405.1 1).f1, (rd_T26 bt405.1 1).f2, bt405.2.1, 0)) else (none)) else (none))) else (some (0, 0, (⟨#[]⟩ : ByteArray), 0, 0, (⟨#[]⟩ : ByteArray), bt405.2.1, bt405.2.2)))
theorem r07_Pair.mono : ∀ a0 a1 k, LeO (r07_Pair.f k a0 a1) (r07_Pair.f (k + 1) a0 a1) := by
 intro a0 a1 k; unfold r07_Pair.f; repeat' first
   | (with_reducible exact r07_Lines.mono _ _ _ _)
   | (with_reducible first | exact LeO.refl _ | exact LeO.none _ | refine LeO.ite ?_ ?_ | refine LeO.bind ?_ (fun _ => ?_))
def r07_Pair.T5 : Bool × List (List Nat × List Nat) := (true, [([], []), ([0], [0]), ([1], [1]), ([], []), ([3], [3]), ([4], [4]), ([5], [5]), ([], []), ([2, 6, 0, 1, 2], [2]), ([6, 8, 0, 1, 2, 3, 4, 5, 6, 8], [6]), ([7, 9, 0, 1, 2, 3, 4, 5, 6, 7, 8, 9], [7]), ([10, 0, 1, 2, 3, 4, 5, 6, 7, 8, 9, 10], [])])
def r07_Pair.B5 : List Nat := [0, 1, 3, 0, 8, 24, 56, 0, 127, 383, 1023, 2047]
theorem r07_Pair.tab5 : rtab .any (opsOf Try.f9 5) = r07_Pair.T5 := by kernel_rfl
theorem r07_Pair.bits5 : waitsOk r07_Pair.T5.2 r07_Pair.B5 = true := by kernel_rfl
def r07_Pair.T6 : Bool × List (List Nat × List Nat) := (true, [([], []), ([0], [0]), ([1], [1]), ([], []), ([3], [3]), ([4], [4]), ([], []), ([2, 0, 1, 2], [2]), ([5, 7, 0, 1, 2, 3, 4, 5, 7], [5]), ([6, 8, 0, 1, 2, 3, 4, 5, 6, 7, 8], [6]), ([9, 0, 1, 2, 3, 4, 5, 6, 7, 8, 9], [])])
def r07_Pair.B6 : List Nat := [0, 1, 3, 0, 8, 24, 0, 7, 191, 511, 1023]
theorem r07_Pair.tab6 : rtab .any (opsOf Try.f9 6) = r07_Pair.T6 := by kernel_rfl
theorem r07_Pair.bits6 : waitsOk r07_Pair.T6.2 r07_Pair.B6 = true := by kernel_rfl
set_option maxHeartbeats 8000000 in
theorem r07_Pair.calls (k : Nat) (A0 : Option Addr) (c0 : Nat) (l0 : List (S43)) (a1 : Int) (r1 : Int) (r2 : Int) (r3 : ByteArray) (r4 : Int) (r5 : Int) (r6 : ByteArray) (r7 : Int) (r8 : Int) (w : World) (hr0 : Kd.C k43 w A0 l0.length l0) (hc0 : l0.length ≤ c0) (h : r07_Pair.f k l0 a1 = some (r1, r2, r3, r4, r5, r6, r7, r8)) :
  Calls Try.prog 9 #[.slice A0 l0.length c0, .int .i64 a1] w fun e w' => e = .returned (.tuple #[.agg #[.int .i64 r1, .int .i64 r2, .string r3], .agg #[.int .i64 r4, .int .i64 r5, .string r6], .int .i64 r7, .int .i64 r8]) ∧ Below w.heap.size w w' := by
 have hu26 := Try.underlying26; have HR0 := am_ hr0; have HC0 := am_ hc0; clear hr0 hc0; have HB := am_ (Below.refl w.heap.size w); have H : ((r07_Lines.f k l0 a1 2).bind fun bt405 => (if bt405.2.2 = 0 then (if (bt405.1.length : Int) = 1 then (if 0 < (bt405.1.length : Int) then ((r07_Other.f ((rd_T26 bt405.1 0).f0) ((rd_T26 bt405.1 0).f1) ((rd_T26 bt405.1 0).f2)).bind fun bt412 => (some ((rd_T26 bt405.1 0).f0, (rd_T26 bt405.1 0).f1, (rd_T26 bt405.1 0).f2, bt412.1, bt412.2.1, bt412.2.2, bt405.2.1, 0))) else (none)) else (if 0 < (bt405.1.length : Int) then (if 1 < (bt405.1.length : Int) then (some ((rd_T26 bt405.1 0).f0, (rd_T26 bt405.1 0).f1, (rd_T26 bt405.1 0).f2, (rd_T26 bt405.1 1).f0, (rd_T26 bt405.1 1).f1, (rd_T26 bt405.1 1).f2, bt405.2.1, 0)) else (none)) else (none))) else (some (0, 0, (⟨#[]⟩ : ByteArray), 0, 0, (⟨#[]⟩ : ByteArray), bt405.2.1, bt405.2.2)))) = some (r1, r2, r3, r4, r5, r6, r7, r8) := h; clear h; replace H := bs_ H; obtain ⟨⟨t405, t406, t407⟩, A30, H⟩ := H; try dsimp only at H
 have A3 := am_ A30; clear A30; by_cases c4 : t407 = 0
 ·rw [if_pos c4] at H; have c4b0 : (t407 == 0) = true := beq_iff_eq.mpr c4; have c4b1 : (t407 != 0) = false := bne_eq_false_iff_eq.mpr c4; clear c4; by_cases c5 : (t405.length : Int) = 1
  ·rw [if_pos c5] at H; have c5b0 : ((t405.length : Int) == 1) = true := beq_iff_eq.mpr c5; have c5b1 : ((t405.length : Int) != 1) = false := bne_eq_false_iff_eq.mpr c5; clear c5; by_cases c6 : 0 < (t405.length : Int)
   ·rw [if_pos c6] at H; have c6b0 : decide (0 < (t405.length : Int)) = true := dt_ c6; have c6b1 : decide (0 < t405.length) = true := dt_ (by omega); clear c6; replace H := bs_ H; obtain ⟨⟨t412, t413, t414⟩, A70, H⟩ := H; try dsimp only at H
    have A7 := am_ A70; clear A70; simp only [Option.some.injEq, Prod.mk.injEq] at H; obtain ⟨rfl, rfl, rfl, rfl, rfl, rfl, rfl, rfl⟩ := H; go_enter Try.func9, Try.ntmps9
    try go_wp2_with (first | ((with_reducible refine gate_dst (N := 4) rfl ?_); refine box_event ?hg (N := 4) ?hd (cs := #[.int .i64 0, .int .i64 0, .string (⟨#[]⟩ : ByteArray)]) (t := 26) ?hr ?_; (case hd => rfl); (case hg => rfl); (case hr => first | (go_simp; done) | (go_simp; rfl)); intro gb403 hg w8 hbox hb; have BK403 := am_ (hbox); have GW403 := am_ ((bsz_ hg : w.heap.size ≤ gb403)); have GE403 := am_ ((bsz_ hg : w.heap.size ≤ gb403)); replace HB := am_ (below_step bel_ hb); clear hb hbox hg) | ((with_reducible refine gate_dst (N := 5) rfl ?_); refine box_event ?hg (N := 5) ?hd (cs := #[.int .i64 0, .int .i64 0, .string (⟨#[]⟩ : ByteArray)]) (t := 26) ?hr ?_; (case hd => rfl); (case hg => rfl); (case hr => first | (go_simp; done) | (go_simp; rfl)); intro gb404 hg w9 hbox hb; have BK404 := am_ (hbox); have GW404 := am_ ((bsz_ hg : w.heap.size ≤ gb404)); have GE404 := am_ ((bsz_ hg : w.heap.size ≤ gb404)); have NB403_404 := am_ (bne_ BK403 hg : gb403 ≠ gb404); have NB404_403 := am_ (bng_ BK403 hg : gb404 ≠ gb403); replace BK403 := blb_ BK403 hb; replace HB := am_ (below_step bel_ hb); clear hb hbox hg) | ((with_reducible refine gate_callee (f := 25) rfl ?_); refine goesL_ (some 14) rfl rfl Try.func25 (by kernel_rfl) rfl #[.slice A0 l0.length c0, .int .i64 a1, .int .i64 2] rfl goa_ ?_; (with_reducible refine (r07_Lines.calls k _ _ l0 a1 2 t405 t406 t407 _ ?side1 ?side2 A3.out).mono ?_); (case side1 => exact cin_); (case side2 => exact HC0.out); rintro e w10 ⟨v408, rfl, ho0, hb⟩; refine ⟨_, rfl, ?_⟩; have HO409 := am_ (Kd.R_lower (Kd.R_newB (Kd.R_newB ho0 (g := gb403) (o := .cells #[.int .i64 0, .int .i64 0, .string (⟨#[]⟩ : ByteArray)] 26 (0, 0)) blk_) (g := gb404) (o := .cells #[.int .i64 0, .int .i64 0, .string (⟨#[]⟩ : ByteArray)] 26 (0, 0)) blk_) (below_size bel_)); replace BK403 := blb_ BK403 hb; replace BK404 := blb_ BK404 hb; replace HB := am_ (below_step bel_ hb); (try clear hb); (try clear hb2); (try clear hk); (try clear hi); (try clear ho0); obtain ⟨Ao11, co11, eo11⟩ := Kd.R_slice HO409.out; subst eo11))
    have n0_ := am_ (Kd.R_drew HO409.out); have n1_ := am_ (blk_drew BK403.out); have n2_ := am_ (blk_drew BK404.out); have n3_ := am_ (below_drew1 HB.out); clear HO409; clear BK403; clear BK404; clear HB; have HO409 := n0_; have BK403 := n1_; have BK404 := n2_; have HB := n3_; clear n0_ n1_ n2_ n3_; have p410 : 0 ≤ (0 : Int) := (by omega)
    have q410 : 0 < (t405.length : Int) := od_ (by first | (with_reducible assumption) | assumption); obtain ⟨ad410, e410, hx410_0, hx410_1, hx410_2⟩ := at_T26 (Kd.R_reads' HO409.out).2.2 0 p410 q410; cases e410
    have qi410 : (0 < t405.length) = True := eq_true (by omega); (try rw [show ((0 : Int)).toNat = 0 from rfl] at hx410_0)
    (try rw [show 0 * 3 = 0 from rfl] at hx410_0)
    (try rw [Addr.add_zero'] at hx410_0)
    (try rw [show ((0 : Int)).toNat = 0 from rfl] at hx410_1)
    (try rw [show 0 * 3 = 0 from rfl] at hx410_1)
    (try rw [Addr.add_zero'] at hx410_1)
    (try rw [show ((0 : Int)).toNat = 0 from rfl] at hx410_2)
    (try rw [show 0 * 3 = 0 from rfl] at hx410_2)
    (try rw [Addr.add_zero'] at hx410_2)
    replace p410 := eq_true p410; replace q410 := eq_true q410; have p411 : 0 ≤ (0 : Int) := (by omega)
    have q411 : 0 < (t405.length : Int) := od_ (by first | (with_reducible assumption) | assumption); obtain ⟨ad411, e411, hx411_0, hx411_1, hx411_2⟩ := at_T26 (Kd.R_reads' HO409.out).2.2 0 p411 q411; obtain rfl : ad410 = ad411 := (by injection e411)
    have qi411 : (0 < t405.length) = True := eq_true (by omega); (try rw [show ((0 : Int)).toNat = 0 from rfl] at hx411_0)
    (try rw [show 0 * 3 = 0 from rfl] at hx411_0)
    (try rw [Addr.add_zero'] at hx411_0)
    (try rw [show ((0 : Int)).toNat = 0 from rfl] at hx411_1)
    (try rw [show 0 * 3 = 0 from rfl] at hx411_1)
    (try rw [Addr.add_zero'] at hx411_1)
    (try rw [show ((0 : Int)).toNat = 0 from rfl] at hx411_2)
    (try rw [show 0 * 3 = 0 from rfl] at hx411_2)
    (try rw [Addr.add_zero'] at hx411_2)
    replace p411 := eq_true p411; replace q411 := eq_true q411; refine start_ (n := 12) (S := fun w' => w'.cell? ad410 = some (.int .i64 ((rd_T26 t405 0).f0)) ∧ w'.cell? ⟨ad410.block, ad410.off + 1, none⟩ = some (.int .i64 ((rd_T26 t405 0).f1)) ∧ w'.cell? ⟨ad410.block, ad410.off + 2, none⟩ = some (.string ((rd_T26 t405 0).f2)) ∧ w'.cell? ad410 = some (.int .i64 ((rd_T26 t405 0).f0)) ∧ w'.cell? ⟨ad410.block, ad410.off + 1, none⟩ = some (.int .i64 ((rd_T26 t405 0).f1)) ∧ w'.cell? ⟨ad410.block, ad410.off + 2, none⟩ = some (.string ((rd_T26 t405 0).f2))) (ds := []) #[false, false, false, false, false, false, false, false, false, false, false, false] (by kernel_rfl) rfl rfl ⟨hx410_0, hx410_1, hx410_2, hx411_0, hx411_1, hx411_2⟩ (fun hHeld => ?_); refine with_tabW r07_Pair.tab5 r07_Pair.bits5 (fun HT_ HW_ => ?_)
    generalize w10.drew = w12 at HO409 BK403 BK404 HB hx410_0 hx410_1 hx410_2 hx411_0 hx411_1 hx411_2 hHeld ⊢
    refine pus_ 0 (some 27) #[true, false, false, false, false, false, false, false, false, false, false, false] rfl rfl HT_.out ?_
    refine pus_ 1 (some 28) #[true, true, false, false, false, false, false, false, false, false, false, false] rfl rfl HT_.out ?_
    refine pus_ 3 (some 30) #[true, true, false, true, false, false, false, false, false, false, false, false] rfl rfl HT_.out ?_
    refine pus_ 4 (some 31) #[true, true, false, true, true, false, false, false, false, false, false, false] rfl rfl HT_.out ?_
    refine pus_ 7 (some 34) #[true, true, false, true, true, false, false, true, false, false, false, false] rfl rfl HT_.out ?_
    refine tas_ 2 (some 29) #[true, true, true, true, true, false, false, true, false, false, false, false] rfl rfl HT_.out HW_.out hHeld ?_
    refine tas_ 5 (some 32) #[true, true, true, true, true, true, false, true, false, false, false, false] rfl rfl HT_.out HW_.out hHeld ?_
    refine one_ (i := 6) (N := some 33) #[true, true, true, true, true, true, true, true, false, false, false, false] rfl rfl (one_of HT_.out (by kernel_rfl)) (by decide) (fun K hK => ?_)
    refine goes_ Try.func26 (by kernel_rfl) rfl #[.agg #[.int .i64 ((rd_T26 t405 0).f0), .int .i64 ((rd_T26 t405 0).f1), .string ((rd_T26 t405 0).f2)]] (by rfl) rfl rfl goa_ ?_
    with_reducible refine (r07_Other.calls ((rd_T26 t405 0).f0) ((rd_T26 t405 0).f1) ((rd_T26 t405 0).f2) t412 t413 t414 _ A7.out).mono ?_
    rintro e w13 ⟨rfl, hb⟩
    have HS0_ := (hb.cell (World.block_lt_of_cell? _ _ (hHeld.1))).trans (hHeld.1); have HS1_ := (hb.cell (World.block_lt_of_cell? _ _ (hHeld.2.1))).trans (hHeld.2.1); have HS2_ := (hb.cell (World.block_lt_of_cell? _ _ (hHeld.2.2.1))).trans (hHeld.2.2.1); have HS3_ := (hb.cell (World.block_lt_of_cell? _ _ (hHeld.2.2.2.1))).trans (hHeld.2.2.2.1); have HS4_ := (hb.cell (World.block_lt_of_cell? _ _ (hHeld.2.2.2.2.1))).trans (hHeld.2.2.2.2.1); have HS5_ := (hb.cell (World.block_lt_of_cell? _ _ (hHeld.2.2.2.2.2))).trans (hHeld.2.2.2.2.2); refine ⟨_, rfl, ?_⟩
    have n0_ := am_ (Kd.R_below (row_ HO409) hb); have n1_ := blb_ BK403 hb; have n2_ := blb_ BK404 hb; have n3_ := am_ (below_step bel_ hb); clear HO409; clear BK403; clear BK404; clear HB; have HO409 := n0_; have BK403 := n1_; have BK404 := n2_; have HB := n3_; clear n0_ n1_ n2_ n3_; (try clear hb)
    (try clear hb2)
    (try clear hk)
    (try clear hi)
    refine hK.out _ _ ⟨HS0_, HS1_, HS2_, HS3_, HS4_, HS5_⟩ (fun hHeld => ?_)
    clear hK K; refine norm_ (a' := ?_) ?_ ?_
    rotate_left
    ·show Act.put _ (some 33) _ = _
     simp only [Act.put, List.setIfInBounds_toArray, List.set_cons_zero, List.set_cons_succ, i64_w, i32_w]; rfl
    refine one_ (i := 8) (N := none) #[true, true, true, true, true, true, true, true, true, false, false, false] rfl rfl (one_of HT_.out (by kernel_rfl)) (by decide) (fun K hK => ?_)
    have hs14 : w13.cell? ⟨gb403, 0, none⟩ = some (.int .i64 0) := (blk_cell BK403.out 0).trans rfl; have hfs14 := blk_frozen BK403.out 0; have hns14_1 := NB404_403.out; have hms14_1 := NB403_404.out; have hs15 : w13.cell? ⟨gb403, 1, none⟩ = some (.int .i64 0) := (blk_cell BK403.out 1).trans rfl; have hfs15 := blk_frozen BK403.out 1; have hns15_1 := NB404_403.out; have hms15_1 := NB403_404.out; have hs16 : w13.cell? ⟨gb403, 2, none⟩ = some (.string (⟨#[]⟩ : ByteArray)) := (blk_cell BK403.out 2).trans rfl; have hfs16 := blk_frozen BK403.out 2; have hns16_1 := NB404_403.out; have hms16_1 := NB403_404.out; refine skip_ (w1 := ?_) (by rfl) rfl ?_ ?_
    rotate_left
    ·go_simp
     rfl
    refine hK.out _ _ ⟨((cell_far (p := ⟨gb403, _, none⟩) (oaw_ (Kd.R_away HO409.out (fun _ hk => hk.1.2))) _).trans (((cell_far (p := ⟨gb403, _, none⟩) (oaw_ (Kd.R_away HO409.out (fun _ hk => hk.1.2))) _).trans (((cell_far (p := ⟨gb403, _, none⟩) (oaw_ (Kd.R_away HO409.out (fun _ hk => hk.1.2))) _).trans (hHeld.1)))))), ((cell_far (p := ⟨gb403, _, none⟩) (oaw_ (Kd.R_away HO409.out (fun _ hk => hk.1.2))) _).trans (((cell_far (p := ⟨gb403, _, none⟩) (oaw_ (Kd.R_away HO409.out (fun _ hk => hk.1.2))) _).trans (((cell_far (p := ⟨gb403, _, none⟩) (oaw_ (Kd.R_away HO409.out (fun _ hk => hk.1.2))) _).trans (hHeld.2.1)))))), ((cell_far (p := ⟨gb403, _, none⟩) (oaw_ (Kd.R_away HO409.out (fun _ hk => hk.1.2))) _).trans (((cell_far (p := ⟨gb403, _, none⟩) (oaw_ (Kd.R_away HO409.out (fun _ hk => hk.1.2))) _).trans (((cell_far (p := ⟨gb403, _, none⟩) (oaw_ (Kd.R_away HO409.out (fun _ hk => hk.1.2))) _).trans (hHeld.2.2.1)))))), ((cell_far (p := ⟨gb403, _, none⟩) (oaw_ (Kd.R_away HO409.out (fun _ hk => hk.1.2))) _).trans (((cell_far (p := ⟨gb403, _, none⟩) (oaw_ (Kd.R_away HO409.out (fun _ hk => hk.1.2))) _).trans (((cell_far (p := ⟨gb403, _, none⟩) (oaw_ (Kd.R_away HO409.out (fun _ hk => hk.1.2))) _).trans (hHeld.2.2.2.1)))))), ((cell_far (p := ⟨gb403, _, none⟩) (oaw_ (Kd.R_away HO409.out (fun _ hk => hk.1.2))) _).trans (((cell_far (p := ⟨gb403, _, none⟩) (oaw_ (Kd.R_away HO409.out (fun _ hk => hk.1.2))) _).trans (((cell_far (p := ⟨gb403, _, none⟩) (oaw_ (Kd.R_away HO409.out (fun _ hk => hk.1.2))) _).trans (hHeld.2.2.2.2.1)))))), ((cell_far (p := ⟨gb403, _, none⟩) (oaw_ (Kd.R_away HO409.out (fun _ hk => hk.1.2))) _).trans (((cell_far (p := ⟨gb403, _, none⟩) (oaw_ (Kd.R_away HO409.out (fun _ hk => hk.1.2))) _).trans (((cell_far (p := ⟨gb403, _, none⟩) (oaw_ (Kd.R_away HO409.out (fun _ hk => hk.1.2))) _).trans (hHeld.2.2.2.2.2))))))⟩ (fun hHeld => ?_)
    clear hK K; refine one_ (i := 9) (N := none) #[true, true, true, true, true, true, true, true, true, true, false, false] rfl rfl (one_of HT_.out (by kernel_rfl)) (by decide) (fun K hK => ?_)
    have hs17 : w13.cell? ⟨gb404, 0, none⟩ = some (.int .i64 0) := (blk_cell BK404.out 0).trans rfl; have hfs17 := blk_frozen BK404.out 0; have hns17_0 := NB403_404.out; have hms17_0 := NB404_403.out; have hs18 : w13.cell? ⟨gb404, 1, none⟩ = some (.int .i64 0) := (blk_cell BK404.out 1).trans rfl; have hfs18 := blk_frozen BK404.out 1; have hns18_0 := NB403_404.out; have hms18_0 := NB404_403.out; have hs19 : w13.cell? ⟨gb404, 2, none⟩ = some (.string (⟨#[]⟩ : ByteArray)) := (blk_cell BK404.out 2).trans rfl; have hfs19 := blk_frozen BK404.out 2; have hns19_0 := NB403_404.out; have hms19_0 := NB404_403.out; refine skip_ (w1 := ?_) (by rfl) rfl ?_ ?_
    rotate_left
    ·go_simp
     rfl
    refine hK.out _ _ ⟨((cell_far (p := ⟨gb404, _, none⟩) (oaw_ (Kd.R_away HO409.out (fun _ hk => hk.2))) _).trans (((cell_far (p := ⟨gb404, _, none⟩) (oaw_ (Kd.R_away HO409.out (fun _ hk => hk.2))) _).trans (((cell_far (p := ⟨gb404, _, none⟩) (oaw_ (Kd.R_away HO409.out (fun _ hk => hk.2))) _).trans (hHeld.1)))))), ((cell_far (p := ⟨gb404, _, none⟩) (oaw_ (Kd.R_away HO409.out (fun _ hk => hk.2))) _).trans (((cell_far (p := ⟨gb404, _, none⟩) (oaw_ (Kd.R_away HO409.out (fun _ hk => hk.2))) _).trans (((cell_far (p := ⟨gb404, _, none⟩) (oaw_ (Kd.R_away HO409.out (fun _ hk => hk.2))) _).trans (hHeld.2.1)))))), ((cell_far (p := ⟨gb404, _, none⟩) (oaw_ (Kd.R_away HO409.out (fun _ hk => hk.2))) _).trans (((cell_far (p := ⟨gb404, _, none⟩) (oaw_ (Kd.R_away HO409.out (fun _ hk => hk.2))) _).trans (((cell_far (p := ⟨gb404, _, none⟩) (oaw_ (Kd.R_away HO409.out (fun _ hk => hk.2))) _).trans (hHeld.2.2.1)))))), ((cell_far (p := ⟨gb404, _, none⟩) (oaw_ (Kd.R_away HO409.out (fun _ hk => hk.2))) _).trans (((cell_far (p := ⟨gb404, _, none⟩) (oaw_ (Kd.R_away HO409.out (fun _ hk => hk.2))) _).trans (((cell_far (p := ⟨gb404, _, none⟩) (oaw_ (Kd.R_away HO409.out (fun _ hk => hk.2))) _).trans (hHeld.2.2.2.1)))))), ((cell_far (p := ⟨gb404, _, none⟩) (oaw_ (Kd.R_away HO409.out (fun _ hk => hk.2))) _).trans (((cell_far (p := ⟨gb404, _, none⟩) (oaw_ (Kd.R_away HO409.out (fun _ hk => hk.2))) _).trans (((cell_far (p := ⟨gb404, _, none⟩) (oaw_ (Kd.R_away HO409.out (fun _ hk => hk.2))) _).trans (hHeld.2.2.2.2.1)))))), ((cell_far (p := ⟨gb404, _, none⟩) (oaw_ (Kd.R_away HO409.out (fun _ hk => hk.2))) _).trans (((cell_far (p := ⟨gb404, _, none⟩) (oaw_ (Kd.R_away HO409.out (fun _ hk => hk.2))) _).trans (((cell_far (p := ⟨gb404, _, none⟩) (oaw_ (Kd.R_away HO409.out (fun _ hk => hk.2))) _).trans (hHeld.2.2.2.2.2))))))⟩ (fun hHeld => ?_)
    clear hK K; refine pus_ 10 (some 6) #[true, true, true, true, true, true, true, true, true, true, true, false] rfl rfl HT_.out ?_
    refine pus_ 11 (some 7) #[true, true, true, true, true, true, true, true, true, true, true, true] rfl rfl HT_.out ?_
    refine done_ (done_of HT_.out (by kernel_rfl)) ?_
    try go_wp2
    refine bodyPost_ret (results_list (rs := [.cell 4 26, .cell 5 26, .tmp 6, .tmp 7]) rfl (by simp) (.cell gb403 26 #[.int .i64 ((rd_T26 t405 0).f0), .int .i64 ((rd_T26 t405 0).f1), .string ((rd_T26 t405 0).f2)] (0, 0) _ rfl (bch_) Try.underlying26 rfl (by kernel_rfl) (.cell gb404 26 #[.int .i64 t412, .int .i64 t413, .string t414] (0, 0) _ rfl (bch_) Try.underlying26 rfl (by kernel_rfl) (.tmp (.tmp .nil))))) rfl ?_
    exact ⟨rsl_, bel_⟩
   rw [if_neg c6] at H; exact absurd H (by simp)
  rw [if_neg c5] at H; have c5b0 : ((t405.length : Int) == 1) = false := beq_eq_false_iff_ne.mpr c5; have c5b1 : ((t405.length : Int) != 1) = true := bne_iff_ne.mpr c5; by_cases c20 : 0 < (t405.length : Int)
  ·rw [if_pos c20] at H; have c20b0 : decide (0 < (t405.length : Int)) = true := dt_ c20; have c20b1 : decide (0 < t405.length) = true := dt_ (by omega); clear c20; by_cases c21 : 1 < (t405.length : Int)
   ·rw [if_pos c21] at H; have c21b0 : decide (1 < (t405.length : Int)) = true := dt_ c21; have c21b1 : decide (1 < t405.length) = true := dt_ (by omega); clear c21; simp only [Option.some.injEq, Prod.mk.injEq] at H; obtain ⟨rfl, rfl, rfl, rfl, rfl, rfl, rfl, rfl⟩ := H; go_enter Try.func9, Try.ntmps9
    try go_wp2_with (first | ((with_reducible refine gate_dst (N := 4) rfl ?_); refine box_event ?hg (N := 4) ?hd (cs := #[.int .i64 0, .int .i64 0, .string (⟨#[]⟩ : ByteArray)]) (t := 26) ?hr ?_; (case hd => rfl); (case hg => rfl); (case hr => first | (go_simp; done) | (go_simp; rfl)); intro gb403 hg w22 hbox hb; have BK403 := am_ (hbox); have GW403 := am_ ((bsz_ hg : w.heap.size ≤ gb403)); have GE403 := am_ ((bsz_ hg : w.heap.size ≤ gb403)); replace HB := am_ (below_step bel_ hb); clear hb hbox hg) | ((with_reducible refine gate_dst (N := 5) rfl ?_); refine box_event ?hg (N := 5) ?hd (cs := #[.int .i64 0, .int .i64 0, .string (⟨#[]⟩ : ByteArray)]) (t := 26) ?hr ?_; (case hd => rfl); (case hg => rfl); (case hr => first | (go_simp; done) | (go_simp; rfl)); intro gb404 hg w23 hbox hb; have BK404 := am_ (hbox); have GW404 := am_ ((bsz_ hg : w.heap.size ≤ gb404)); have GE404 := am_ ((bsz_ hg : w.heap.size ≤ gb404)); have NB403_404 := am_ (bne_ BK403 hg : gb403 ≠ gb404); have NB404_403 := am_ (bng_ BK403 hg : gb404 ≠ gb403); replace BK403 := blb_ BK403 hb; replace HB := am_ (below_step bel_ hb); clear hb hbox hg) | ((with_reducible refine gate_callee (f := 25) rfl ?_); refine goesL_ (some 14) rfl rfl Try.func25 (by kernel_rfl) rfl #[.slice A0 l0.length c0, .int .i64 a1, .int .i64 2] rfl goa_ ?_; (with_reducible refine (r07_Lines.calls k _ _ l0 a1 2 t405 t406 t407 _ ?side1 ?side2 A3.out).mono ?_); (case side1 => exact cin_); (case side2 => exact HC0.out); rintro e w24 ⟨v408, rfl, ho0, hb⟩; refine ⟨_, rfl, ?_⟩; have HO409 := am_ (Kd.R_lower (Kd.R_newB (Kd.R_newB ho0 (g := gb403) (o := .cells #[.int .i64 0, .int .i64 0, .string (⟨#[]⟩ : ByteArray)] 26 (0, 0)) blk_) (g := gb404) (o := .cells #[.int .i64 0, .int .i64 0, .string (⟨#[]⟩ : ByteArray)] 26 (0, 0)) blk_) (below_size bel_)); replace BK403 := blb_ BK403 hb; replace BK404 := blb_ BK404 hb; replace HB := am_ (below_step bel_ hb); (try clear hb); (try clear hb2); (try clear hk); (try clear hi); (try clear ho0); obtain ⟨Ao25, co25, eo25⟩ := Kd.R_slice HO409.out; subst eo25))
    have n0_ := am_ (Kd.R_drew HO409.out); have n1_ := am_ (blk_drew BK403.out); have n2_ := am_ (blk_drew BK404.out); have n3_ := am_ (below_drew1 HB.out); clear HO409; clear BK403; clear BK404; clear HB; have HO409 := n0_; have BK403 := n1_; have BK404 := n2_; have HB := n3_; clear n0_ n1_ n2_ n3_; have p415 : 0 ≤ (0 : Int) := (by omega)
    have q415 : 0 < (t405.length : Int) := od_ (by first | (with_reducible assumption) | assumption); obtain ⟨ad415, e415, hx415_0, hx415_1, hx415_2⟩ := at_T26 (Kd.R_reads' HO409.out).2.2 0 p415 q415; cases e415
    have qi415 : (0 < t405.length) = True := eq_true (by omega); (try rw [show ((0 : Int)).toNat = 0 from rfl] at hx415_0)
    (try rw [show 0 * 3 = 0 from rfl] at hx415_0)
    (try rw [Addr.add_zero'] at hx415_0)
    (try rw [show ((0 : Int)).toNat = 0 from rfl] at hx415_1)
    (try rw [show 0 * 3 = 0 from rfl] at hx415_1)
    (try rw [Addr.add_zero'] at hx415_1)
    (try rw [show ((0 : Int)).toNat = 0 from rfl] at hx415_2)
    (try rw [show 0 * 3 = 0 from rfl] at hx415_2)
    (try rw [Addr.add_zero'] at hx415_2)
    replace p415 := eq_true p415; replace q415 := eq_true q415; have p416 : 0 ≤ (1 : Int) := (by omega)
    have q416 : 1 < (t405.length : Int) := od_ (by first | (with_reducible assumption) | assumption); obtain ⟨ad416, e416, hx416_0, hx416_1, hx416_2⟩ := at_T26 (Kd.R_reads' HO409.out).2.2 1 p416 q416; obtain rfl : ad415 = ad416 := (by injection e416)
    (try simp only [show (1 : Int).toNat = 1 from rfl, Nat.reduceMul, Nat.reduceEqDiff, Go.Addr.add, ↓reduceIte] at hx416_0)
    (try simp only [show (1 : Int).toNat = 1 from rfl, Nat.reduceMul, Nat.reduceEqDiff, Go.Addr.add, ↓reduceIte] at hx416_1)
    (try simp only [show (1 : Int).toNat = 1 from rfl, Nat.reduceMul, Nat.reduceEqDiff, Go.Addr.add, ↓reduceIte] at hx416_2)
    have qi416 : (1 < t405.length) = True := eq_true (by omega); (try rw [show ((1 : Int)).toNat = 1 from rfl] at hx416_0)
    (try rw [show 1 * 3 = 3 from rfl] at hx416_0)
    (try rw [show ((1 : Int)).toNat = 1 from rfl] at hx416_1)
    (try rw [show 1 * 3 = 3 from rfl] at hx416_1)
    (try rw [show ((1 : Int)).toNat = 1 from rfl] at hx416_2)
    (try rw [show 1 * 3 = 3 from rfl] at hx416_2)
    replace p416 := eq_true p416; replace q416 := eq_true q416; refine start_ (n := 11) (S := fun w' => w'.cell? ad415 = some (.int .i64 ((rd_T26 t405 0).f0)) ∧ w'.cell? ⟨ad415.block, ad415.off + 1, none⟩ = some (.int .i64 ((rd_T26 t405 0).f1)) ∧ w'.cell? ⟨ad415.block, ad415.off + 2, none⟩ = some (.string ((rd_T26 t405 0).f2)) ∧ w'.cell? ⟨ad415.block, ad415.off + 3, none⟩ = some (.int .i64 ((rd_T26 t405 1).f0)) ∧ w'.cell? ⟨ad415.block, ad415.off + 3 + 1, none⟩ = some (.int .i64 ((rd_T26 t405 1).f1)) ∧ w'.cell? ⟨ad415.block, ad415.off + 3 + 2, none⟩ = some (.string ((rd_T26 t405 1).f2))) (ds := []) #[false, false, false, false, false, false, false, false, false, false, false] (by kernel_rfl) rfl rfl ⟨hx415_0, hx415_1, hx415_2, hx416_0, hx416_1, hx416_2⟩ (fun hHeld => ?_); refine with_tabW r07_Pair.tab6 r07_Pair.bits6 (fun HT_ HW_ => ?_)
    generalize w24.drew = w26 at HO409 BK403 BK404 HB hx415_0 hx415_1 hx415_2 hx416_0 hx416_1 hx416_2 hHeld ⊢
    refine pus_ 0 (some 35) #[true, false, false, false, false, false, false, false, false, false, false] rfl rfl HT_.out ?_
    refine pus_ 1 (some 36) #[true, true, false, false, false, false, false, false, false, false, false] rfl rfl HT_.out ?_
    refine pus_ 3 (some 38) #[true, true, false, true, false, false, false, false, false, false, false] rfl rfl HT_.out ?_
    refine pus_ 4 (some 39) #[true, true, false, true, true, false, false, false, false, false, false] rfl rfl HT_.out ?_
    refine pus_ 6 (some 41) #[true, true, false, true, true, false, true, false, false, false, false] rfl rfl HT_.out ?_
    refine tas_ 2 (some 37) #[true, true, true, true, true, false, true, false, false, false, false] rfl rfl HT_.out HW_.out hHeld ?_
    refine tas_ 5 (some 40) #[true, true, true, true, true, true, true, false, false, false, false] rfl rfl HT_.out HW_.out hHeld ?_
    refine one_ (i := 7) (N := none) #[true, true, true, true, true, true, true, true, false, false, false] rfl rfl (one_of HT_.out (by kernel_rfl)) (by decide) (fun K hK => ?_)
    have hs27 : w26.cell? ⟨gb403, 0, none⟩ = some (.int .i64 0) := (blk_cell BK403.out 0).trans rfl; have hfs27 := blk_frozen BK403.out 0; have hns27_1 := NB404_403.out; have hms27_1 := NB403_404.out; have hs28 : w26.cell? ⟨gb403, 1, none⟩ = some (.int .i64 0) := (blk_cell BK403.out 1).trans rfl; have hfs28 := blk_frozen BK403.out 1; have hns28_1 := NB404_403.out; have hms28_1 := NB403_404.out; have hs29 : w26.cell? ⟨gb403, 2, none⟩ = some (.string (⟨#[]⟩ : ByteArray)) := (blk_cell BK403.out 2).trans rfl; have hfs29 := blk_frozen BK403.out 2; have hns29_1 := NB404_403.out; have hms29_1 := NB403_404.out; refine skip_ (w1 := ?_) (by rfl) rfl ?_ ?_
    rotate_left
    ·go_simp
     rfl
    refine hK.out _ _ ⟨((cell_far (p := ⟨gb403, _, none⟩) (oaw_ (Kd.R_away HO409.out (fun _ hk => hk.1.2))) _).trans (((cell_far (p := ⟨gb403, _, none⟩) (oaw_ (Kd.R_away HO409.out (fun _ hk => hk.1.2))) _).trans (((cell_far (p := ⟨gb403, _, none⟩) (oaw_ (Kd.R_away HO409.out (fun _ hk => hk.1.2))) _).trans (hHeld.1)))))), ((cell_far (p := ⟨gb403, _, none⟩) (oaw_ (Kd.R_away HO409.out (fun _ hk => hk.1.2))) _).trans (((cell_far (p := ⟨gb403, _, none⟩) (oaw_ (Kd.R_away HO409.out (fun _ hk => hk.1.2))) _).trans (((cell_far (p := ⟨gb403, _, none⟩) (oaw_ (Kd.R_away HO409.out (fun _ hk => hk.1.2))) _).trans (hHeld.2.1)))))), ((cell_far (p := ⟨gb403, _, none⟩) (oaw_ (Kd.R_away HO409.out (fun _ hk => hk.1.2))) _).trans (((cell_far (p := ⟨gb403, _, none⟩) (oaw_ (Kd.R_away HO409.out (fun _ hk => hk.1.2))) _).trans (((cell_far (p := ⟨gb403, _, none⟩) (oaw_ (Kd.R_away HO409.out (fun _ hk => hk.1.2))) _).trans (hHeld.2.2.1)))))), ((cell_far (p := ⟨gb403, _, none⟩) (oaw_ (Kd.R_away HO409.out (fun _ hk => hk.1.2))) _).trans (((cell_far (p := ⟨gb403, _, none⟩) (oaw_ (Kd.R_away HO409.out (fun _ hk => hk.1.2))) _).trans (((cell_far (p := ⟨gb403, _, none⟩) (oaw_ (Kd.R_away HO409.out (fun _ hk => hk.1.2))) _).trans (hHeld.2.2.2.1)))))), ((cell_far (p := ⟨gb403, _, none⟩) (oaw_ (Kd.R_away HO409.out (fun _ hk => hk.1.2))) _).trans (((cell_far (p := ⟨gb403, _, none⟩) (oaw_ (Kd.R_away HO409.out (fun _ hk => hk.1.2))) _).trans (((cell_far (p := ⟨gb403, _, none⟩) (oaw_ (Kd.R_away HO409.out (fun _ hk => hk.1.2))) _).trans (hHeld.2.2.2.2.1)))))), ((cell_far (p := ⟨gb403, _, none⟩) (oaw_ (Kd.R_away HO409.out (fun _ hk => hk.1.2))) _).trans (((cell_far (p := ⟨gb403, _, none⟩) (oaw_ (Kd.R_away HO409.out (fun _ hk => hk.1.2))) _).trans (((cell_far (p := ⟨gb403, _, none⟩) (oaw_ (Kd.R_away HO409.out (fun _ hk => hk.1.2))) _).trans (hHeld.2.2.2.2.2))))))⟩ (fun hHeld => ?_)
    clear hK K; refine one_ (i := 8) (N := none) #[true, true, true, true, true, true, true, true, true, false, false] rfl rfl (one_of HT_.out (by kernel_rfl)) (by decide) (fun K hK => ?_)
    have hs30 : w26.cell? ⟨gb404, 0, none⟩ = some (.int .i64 0) := (blk_cell BK404.out 0).trans rfl; have hfs30 := blk_frozen BK404.out 0; have hns30_0 := NB403_404.out; have hms30_0 := NB404_403.out; have hs31 : w26.cell? ⟨gb404, 1, none⟩ = some (.int .i64 0) := (blk_cell BK404.out 1).trans rfl; have hfs31 := blk_frozen BK404.out 1; have hns31_0 := NB403_404.out; have hms31_0 := NB404_403.out; have hs32 : w26.cell? ⟨gb404, 2, none⟩ = some (.string (⟨#[]⟩ : ByteArray)) := (blk_cell BK404.out 2).trans rfl; have hfs32 := blk_frozen BK404.out 2; have hns32_0 := NB403_404.out; have hms32_0 := NB404_403.out; refine skip_ (w1 := ?_) (by rfl) rfl ?_ ?_
    rotate_left
    ·go_simp
     rfl
    refine hK.out _ _ ⟨((cell_far (p := ⟨gb404, _, none⟩) (oaw_ (Kd.R_away HO409.out (fun _ hk => hk.2))) _).trans (((cell_far (p := ⟨gb404, _, none⟩) (oaw_ (Kd.R_away HO409.out (fun _ hk => hk.2))) _).trans (((cell_far (p := ⟨gb404, _, none⟩) (oaw_ (Kd.R_away HO409.out (fun _ hk => hk.2))) _).trans (hHeld.1)))))), ((cell_far (p := ⟨gb404, _, none⟩) (oaw_ (Kd.R_away HO409.out (fun _ hk => hk.2))) _).trans (((cell_far (p := ⟨gb404, _, none⟩) (oaw_ (Kd.R_away HO409.out (fun _ hk => hk.2))) _).trans (((cell_far (p := ⟨gb404, _, none⟩) (oaw_ (Kd.R_away HO409.out (fun _ hk => hk.2))) _).trans (hHeld.2.1)))))), ((cell_far (p := ⟨gb404, _, none⟩) (oaw_ (Kd.R_away HO409.out (fun _ hk => hk.2))) _).trans (((cell_far (p := ⟨gb404, _, none⟩) (oaw_ (Kd.R_away HO409.out (fun _ hk => hk.2))) _).trans (((cell_far (p := ⟨gb404, _, none⟩) (oaw_ (Kd.R_away HO409.out (fun _ hk => hk.2))) _).trans (hHeld.2.2.1)))))), ((cell_far (p := ⟨gb404, _, none⟩) (oaw_ (Kd.R_away HO409.out (fun _ hk => hk.2))) _).trans (((cell_far (p := ⟨gb404, _, none⟩) (oaw_ (Kd.R_away HO409.out (fun _ hk => hk.2))) _).trans (((cell_far (p := ⟨gb404, _, none⟩) (oaw_ (Kd.R_away HO409.out (fun _ hk => hk.2))) _).trans (hHeld.2.2.2.1)))))), ((cell_far (p := ⟨gb404, _, none⟩) (oaw_ (Kd.R_away HO409.out (fun _ hk => hk.2))) _).trans (((cell_far (p := ⟨gb404, _, none⟩) (oaw_ (Kd.R_away HO409.out (fun _ hk => hk.2))) _).trans (((cell_far (p := ⟨gb404, _, none⟩) (oaw_ (Kd.R_away HO409.out (fun _ hk => hk.2))) _).trans (hHeld.2.2.2.2.1)))))), ((cell_far (p := ⟨gb404, _, none⟩) (oaw_ (Kd.R_away HO409.out (fun _ hk => hk.2))) _).trans (((cell_far (p := ⟨gb404, _, none⟩) (oaw_ (Kd.R_away HO409.out (fun _ hk => hk.2))) _).trans (((cell_far (p := ⟨gb404, _, none⟩) (oaw_ (Kd.R_away HO409.out (fun _ hk => hk.2))) _).trans (hHeld.2.2.2.2.2))))))⟩ (fun hHeld => ?_)
    clear hK K; refine pus_ 9 (some 6) #[true, true, true, true, true, true, true, true, true, true, false] rfl rfl HT_.out ?_
    refine pus_ 10 (some 7) #[true, true, true, true, true, true, true, true, true, true, true] rfl rfl HT_.out ?_
    refine done_ (done_of HT_.out (by kernel_rfl)) ?_
    try go_wp2
    refine bodyPost_ret (results_list (rs := [.cell 4 26, .cell 5 26, .tmp 6, .tmp 7]) rfl (by simp) (.cell gb403 26 #[.int .i64 ((rd_T26 t405 0).f0), .int .i64 ((rd_T26 t405 0).f1), .string ((rd_T26 t405 0).f2)] (0, 0) _ rfl (bch_) Try.underlying26 rfl (by kernel_rfl) (.cell gb404 26 #[.int .i64 ((rd_T26 t405 1).f0), .int .i64 ((rd_T26 t405 1).f1), .string ((rd_T26 t405 1).f2)] (0, 0) _ rfl (bch_) Try.underlying26 rfl (by kernel_rfl) (.tmp (.tmp .nil))))) rfl ?_
    exact ⟨rsl_, bel_⟩
   rw [if_neg c21] at H; exact absurd H (by simp)
  rw [if_neg c20] at H; exact absurd H (by simp)
 rw [if_neg c4] at H; have c4b0 : (t407 == 0) = false := beq_eq_false_iff_ne.mpr c4; have c4b1 : (t407 != 0) = true := bne_iff_ne.mpr c4; simp only [Option.some.injEq, Prod.mk.injEq] at H; obtain ⟨rfl, rfl, rfl, rfl, rfl, rfl, rfl, rfl⟩ := H; go_enter Try.func9, Try.ntmps9
 go_wp2_with (first | ((with_reducible refine gate_dst (N := 4) rfl ?_); refine box_event ?hg (N := 4) ?hd (cs := #[.int .i64 0, .int .i64 0, .string (⟨#[]⟩ : ByteArray)]) (t := 26) ?hr ?_; (case hd => rfl); (case hg => rfl); (case hr => first | (go_simp; done) | (go_simp; rfl)); intro gb403 hg w33 hbox hb; have BK403 := am_ (hbox); have GW403 := am_ ((bsz_ hg : w.heap.size ≤ gb403)); have GE403 := am_ ((bsz_ hg : w.heap.size ≤ gb403)); replace HB := am_ (below_step bel_ hb); clear hb hbox hg) | ((with_reducible refine gate_dst (N := 5) rfl ?_); refine box_event ?hg (N := 5) ?hd (cs := #[.int .i64 0, .int .i64 0, .string (⟨#[]⟩ : ByteArray)]) (t := 26) ?hr ?_; (case hd => rfl); (case hg => rfl); (case hr => first | (go_simp; done) | (go_simp; rfl)); intro gb404 hg w34 hbox hb; have BK404 := am_ (hbox); have GW404 := am_ ((bsz_ hg : w.heap.size ≤ gb404)); have GE404 := am_ ((bsz_ hg : w.heap.size ≤ gb404)); have NB403_404 := am_ (bne_ BK403 hg : gb403 ≠ gb404); have NB404_403 := am_ (bng_ BK403 hg : gb404 ≠ gb403); replace BK403 := blb_ BK403 hb; replace HB := am_ (below_step bel_ hb); clear hb hbox hg) | ((with_reducible refine gate_callee (f := 25) rfl ?_); refine goesL_ (some 14) rfl rfl Try.func25 (by kernel_rfl) rfl #[.slice A0 l0.length c0, .int .i64 a1, .int .i64 2] rfl goa_ ?_; (with_reducible refine (r07_Lines.calls k _ _ l0 a1 2 t405 t406 t407 _ ?side1 ?side2 A3.out).mono ?_); (case side1 => exact cin_); (case side2 => exact HC0.out); rintro e w35 ⟨v408, rfl, ho0, hb⟩; refine ⟨_, rfl, ?_⟩; have HO409 := am_ (Kd.R_lower (Kd.R_newB (Kd.R_newB ho0 (g := gb403) (o := .cells #[.int .i64 0, .int .i64 0, .string (⟨#[]⟩ : ByteArray)] 26 (0, 0)) blk_) (g := gb404) (o := .cells #[.int .i64 0, .int .i64 0, .string (⟨#[]⟩ : ByteArray)] 26 (0, 0)) blk_) (below_size bel_)); replace BK403 := blb_ BK403 hb; replace BK404 := blb_ BK404 hb; replace HB := am_ (below_step bel_ hb); (try clear hb); (try clear hb2); (try clear hk); (try clear hi); (try clear ho0); have hnb36 := NB403_404.out; have hnc36 := NB404_403.out; obtain ⟨hcz37_0, hcz37_1, hcz37_2⟩ := c3_ BK403; obtain ⟨hfz37_0, hfz37_1, hfz37_2⟩ := f3_ BK403; obtain ⟨hcz38_0, hcz38_1, hcz38_2⟩ := c3_ BK404; obtain ⟨hfz38_0, hfz38_1, hfz38_2⟩ := f3_ BK404))
 refine bodyPost_ret (results_list (rs := [.cell 4 26, .cell 5 26, .tmp 6, .tmp 7]) rfl (by simp) (.cell gb403 26 #[.int .i64 0, .int .i64 0, .string (⟨#[]⟩ : ByteArray)] (0, 0) _ rfl (bch_) Try.underlying26 rfl (by kernel_rfl) (.cell gb404 26 #[.int .i64 0, .int .i64 0, .string (⟨#[]⟩ : ByteArray)] (0, 0) _ rfl (bch_) Try.underlying26 rfl (by kernel_rfl) (.tmp (.tmp .nil))))) rfl ?_
 exact ⟨rsl_, bel_⟩

end Go.Proofs.Ytofdhdafabmhmaa.PLr
end
