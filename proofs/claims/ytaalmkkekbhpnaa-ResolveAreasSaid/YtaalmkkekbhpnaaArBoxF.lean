/- area.boxes: what it computes. -/
import Derived.Test.YtaalmkkekbhpnaaPRax4
import Derived.Test.YtaalmkkekbhpnaaOpen
import Derived.Test.YtaalmkkekbhpnaaWTab
import Derived.Test.YtaalmkkekbhpnaaArEach
import Derived.RangeFuncBox
import Derived.Maps.OwnIn
import Derived.Maps.AppendAt
set_option linter.unusedVariables false
set_option linter.unusedSimpArgs false
namespace Go.Proofs.Ytaalmkkekbhpnaa.Giv
open Go.RowKit Go.Proofs.YtaalmkkekbhpnaaW.PrintWords Go.Proofs.YtaalmkkekbhpnaaW.PrintLast Go.Proofs.YtaalmkkekbhpnaaW.PrintMore
open Go.Proofs.Ytaalmkkekbhpnaa.Opn Go.Proofs.Ytaalmkkekbhpnaa.PRa
def area_boxes.at_ (s : ByteArray) : List S32 → Option Nat
  | [] => none
  | x :: l => if x.f0 = s then some 0 else (area_boxes.at_ s l).map (· + 1)
/-- A rectangle that takes in one more cell. -/
def area_boxes.wide (b : S32) (r c : Int) : S32 :=
  ⟨b.f0, b.f1, min b.f2 c, wrap64 (wrap64 (r + 1) - b.f1), wrap64 (max (wrap64 (b.f2 + b.f4)) (wrap64 (c + 1)) - min b.f2 c)⟩
def area_boxes.step (x : ByteArray × Int × Int) (o : List S32 × List Int) : List S32 × List Int :=
  match area_boxes.at_ x.1 o.1 with
  | none => (o.1 ++ [⟨x.1, x.2.1, x.2.2, 1, 1⟩], o.2 ++ [1])
  | some k => (o.1.modify k (fun b => area_boxes.wide b x.2.1 x.2.2), o.2.modify k (fun n => wrap64 (n + 1)))
def area_boxes.run (l : List (ByteArray × Int × Int)) : List S32 × List Int := l.foldl (fun o x => area_boxes.step x o) ([], [])
def area_boxes.full : List S32 → List Int → Bool
  | b :: l, n :: m => decide (wrap64 (b.f3 * b.f4) = n) && area_boxes.full l m
  | _, _ => true
def area_boxes.f (k : Nat) (l0 : List (List ByteArray)) : Option (List S32 × Bool) :=
  if (area_boxes.cells l0 0).length < 1000000 ∧ l0.length < 1000000 ∧ ∀ l ∈ l0, l.length < 1000000 ∧ ∀ s ∈ l, s.size ≤ 9223372036854775807 then
    (if area_boxes.full (area_boxes.run (area_boxes.cells l0 0)).1 (area_boxes.run (area_boxes.cells l0 0)).2 = true then some ((area_boxes.run (area_boxes.cells l0 0)).1, true) else some ([], false))
  else none
theorem area_boxes.mono : ∀ l0 k, LeO (area_boxes.f k l0) (area_boxes.f (k + 1) l0) := fun _ _ => LeO.refl _
end Go.Proofs.Ytaalmkkekbhpnaa.Giv
