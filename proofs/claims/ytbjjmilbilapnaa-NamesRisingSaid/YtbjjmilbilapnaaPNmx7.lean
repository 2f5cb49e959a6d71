-- Written by a program of this session (wip/p2) out of the translation; Lean checks it.
import Derived.Test.YtbjjmilbilapnaaPNmx0
import Derived.Test.YtbjjmilbilapnaaPNmx1
import Derived.Test.YtbjjmilbilapnaaPNmx2
import Derived.Test.YtbjjmilbilapnaaPNmx3
import Derived.Test.YtbjjmilbilapnaaPNmx4
namespace Go.Proofs.Ytbjjmilbilapnaa.PNm
open Go.RowKit Go.Proofs.YtbjjmilbilapnaaW.PrintWords Go.Proofs.YtbjjmilbilapnaaW.PrintLast Go.Proofs.YtbjjmilbilapnaaW.PrintMore
attribute [local go_sem] max2_int min2_int max_two min_two max_three min_three max_four min_four   -- for this text's walks alone
set_option linter.unusedVariables false
set_option linter.unusedSimpArgs false
open Go.Proofs.Ytbjjmilbilapnaa.Opn Go.Proofs.Ytbjjmilbilapnaa.Giv

/-! ### parterrelaw16_NamesRising: function 4 -/
mutual
def parterrelaw16_NamesRising.j0 : Nat → List (List ByteArray) → ByteArray → Int → Int → Bool → Option (Bool)
  | 0, _, _, _, _, _ => none
  | k + 1, x0, x1, x2, x9, x23 => if x23 = true then ((parterrelaw16_lives.f k).bind fun t141 => (some t141)) else (if (IntKind.u64.wrap ((x0.length : Int))) = 0 then (none) else ((names_Nth.f k x0 x1 x9).bind fun t142 => ((names_Nth.f k x0 x1 (wrap64 (x9 + 1))).bind fun t143 => (if t142 ≥ t143 then (parterrelaw16_NamesRising.j1 k x0 x9 (wrap64 (Int.tmod (IntKind.u64.wrap (x2)) (IntKind.u64.wrap ((x0.length : Int))))) true) else ((names_Nth.f k x0 x1 (wrap64 (-x9))).bind fun t144 => ((names_Nth.f k x0 x1 (wrap64 ((wrap64 (-x9)) - 1))).bind fun t145 => (if t144 ≤ t145 then (parterrelaw16_NamesRising.j1 k x0 x9 (wrap64 (Int.tmod (IntKind.u64.wrap (x2)) (IntKind.u64.wrap ((x0.length : Int))))) true) else ((names_Along.f k x0 x1 (wrap64 (Int.tmod (IntKind.u64.wrap (x2)) (IntKind.u64.wrap ((x0.length : Int))))) x9).bind fun t146 => ((names_Along.f k x0 x1 (wrap64 (Int.tmod (IntKind.u64.wrap (x2)) (IntKind.u64.wrap ((x0.length : Int))))) (wrap64 (x9 + 1))).bind fun t147 => (if t146 ≥ t147 then (parterrelaw16_NamesRising.j1 k x0 x9 (wrap64 (Int.tmod (IntKind.u64.wrap (x2)) (IntKind.u64.wrap ((x0.length : Int))))) true) else ((names_Along.f k x0 x1 (wrap64 (Int.tmod (IntKind.u64.wrap (x2)) (IntKind.u64.wrap ((x0.length : Int))))) (wrap64 (-x9))).bind fun t148 => ((names_Along.f k x0 x1 (wrap64 (Int.tmod (IntKind.u64.wrap (x2)) (IntKind.u64.wrap ((x0.length : Int))))) (wrap64 ((wrap64 (-x9)) - 1))).bind fun t149 => (parterrelaw16_NamesRising.j1 k x0 x9 (wrap64 (Int.tmod (IntKind.u64.wrap (x2)) (IntKind.u64.wrap ((x0.length : Int))))) (decide (t148 ≤ t149)))))))))))))))
def parterrelaw16_NamesRising.j1 : Nat → List (List ByteArray) → Int → Int → Bool → Option (Bool)
  | 0, _, _, _, _ => none
  | k + 1, x0, x9, x10, x85 => if x85 = true then (some false) else ((names_Nth.f k x0 (⟨#[]⟩ : ByteArray) x9).bind fun t150 => (if t150 = (wrap64 (x9 - 1)) then ((names_Nth.f k x0 (⟨#[]⟩ : ByteArray) (wrap64 (-x9))).bind fun t151 => (if t151 = (wrap64 ((x0.length : Int) - x9)) then ((names_Along.f k x0 (⟨#[]⟩ : ByteArray) x10 x9).bind fun t152 => (if t152 = (wrap64 (x10 + x9)) then ((names_Along.f k x0 (⟨#[]⟩ : ByteArray) x10 (wrap64 (-x9))).bind fun t153 => (if t153 = (wrap64 (x10 - x9)) then ((parterrelaw16_lives.f k).bind fun t154 => (some t154)) else (some false))) else (some false))) else (some false))) else (some false)))
end
def parterrelaw16_NamesRising.f (k : Nat) (l0 : List (List ByteArray)) (a1 : ByteArray) (a2 : Int) (a3 : Int) : Option (Bool) := (parterrelaw16_light.f k l0).bind fun t140 => (if t140 = true then (parterrelaw16_NamesRising.j0 k l0 a1 a2 (wrap64 (1 + (wrap64 (Int.tmod (IntKind.u64.wrap (a3)) 500)))) ((l0.length : Int) == 0)) else (parterrelaw16_NamesRising.j0 k l0 a1 a2 (wrap64 (1 + (wrap64 (Int.tmod (IntKind.u64.wrap (a3)) 500)))) true))
theorem parterrelaw16_NamesRising.mono_l : ∀ k, (∀ y0 y1 y2 y3 y4, LeO (parterrelaw16_NamesRising.j0 k y0 y1 y2 y3 y4) (parterrelaw16_NamesRising.j0 (k + 1) y0 y1 y2 y3 y4)) ∧ (∀ y0 y1 y2 y3, LeO (parterrelaw16_NamesRising.j1 k y0 y1 y2 y3) (parterrelaw16_NamesRising.j1 (k + 1) y0 y1 y2 y3))
  | 0 => ⟨fun _ _ _ _ _ r h => by simp [parterrelaw16_NamesRising.j0] at h, fun _ _ _ _ r h => by simp [parterrelaw16_NamesRising.j1] at h⟩
  | k + 1 => by
    obtain ⟨ih0, ih1⟩ := parterrelaw16_NamesRising.mono_l k
    refine ⟨?_, ?_⟩
    · intro y0 y1 y2 y3 y4
      unfold parterrelaw16_NamesRising.j0
      repeat' first
      | (with_reducible exact ih0 _ _ _ _ _)
      | (with_reducible exact ih1 _ _ _ _)
      | (with_reducible exact names_Along.mono _ _ _ _ _)
      | (with_reducible exact names_Nth.mono _ _ _ _)
      | (with_reducible exact parterrelaw16_light.mono _ _)
      | (with_reducible exact parterrelaw16_lives.mono _)
      | (with_reducible exact LeO.refl _)
      | (with_reducible exact LeO.none _)
      | (with_reducible refine LeO.ite ?_ ?_)
      | (with_reducible refine LeO.bind ?_ (fun _ => ?_))
      | exact ih0 _ _ _ _ _
      | exact ih1 _ _ _ _
      | exact names_Along.mono _ _ _ _ _
      | exact names_Nth.mono _ _ _ _
      | exact parterrelaw16_light.mono _ _
      | exact parterrelaw16_lives.mono _
      | exact LeO.none _
      | refine LeO.ite ?_ ?_
      | refine LeO.bind ?_ (fun _ => ?_)
    · intro y0 y1 y2 y3
      unfold parterrelaw16_NamesRising.j1
      repeat' first
      | (with_reducible exact ih0 _ _ _ _ _)
      | (with_reducible exact ih1 _ _ _ _)
      | (with_reducible exact names_Along.mono _ _ _ _ _)
      | (with_reducible exact names_Nth.mono _ _ _ _)
      | (with_reducible exact parterrelaw16_light.mono _ _)
      | (with_reducible exact parterrelaw16_lives.mono _)
      | (with_reducible exact LeO.refl _)
      | (with_reducible exact LeO.none _)
      | (with_reducible refine LeO.ite ?_ ?_)
      | (with_reducible refine LeO.bind ?_ (fun _ => ?_))
      | exact ih0 _ _ _ _ _
      | exact ih1 _ _ _ _
      | exact names_Along.mono _ _ _ _ _
      | exact names_Nth.mono _ _ _ _
      | exact parterrelaw16_light.mono _ _
      | exact parterrelaw16_lives.mono _
      | exact LeO.none _
      | refine LeO.ite ?_ ?_
      | refine LeO.bind ?_ (fun _ => ?_)
theorem parterrelaw16_NamesRising.mono : ∀ a0 a1 a2 a3 k, LeO (parterrelaw16_NamesRising.f k a0 a1 a2 a3) (parterrelaw16_NamesRising.f (k + 1) a0 a1 a2 a3) := by
  intro a0 a1 a2 a3 k
  obtain ⟨ih0, ih1⟩ := parterrelaw16_NamesRising.mono_l k
  unfold parterrelaw16_NamesRising.f
  repeat' first
      | (with_reducible exact ih0 _ _ _ _ _)
      | (with_reducible exact ih1 _ _ _ _)
      | (with_reducible exact names_Along.mono _ _ _ _ _)
      | (with_reducible exact names_Nth.mono _ _ _ _)
      | (with_reducible exact parterrelaw16_light.mono _ _)
      | (with_reducible exact parterrelaw16_lives.mono _)
      | (with_reducible exact LeO.refl _)
      | (with_reducible exact LeO.none _)
      | (with_reducible refine LeO.ite ?_ ?_)
      | (with_reducible refine LeO.bind ?_ (fun _ => ?_))
      | exact ih0 _ _ _ _ _
      | exact ih1 _ _ _ _
      | exact names_Along.mono _ _ _ _ _
      | exact names_Nth.mono _ _ _ _
      | exact parterrelaw16_light.mono _ _
      | exact parterrelaw16_lives.mono _
      | exact LeO.none _
      | refine LeO.ite ?_ ?_
      | refine LeO.bind ?_ (fun _ => ?_)
set_option maxHeartbeats 8000000 in
set_option maxRecDepth 100000 in
theorem parterrelaw16_NamesRising.calls (k : Nat) (A0 : Option Addr) (c0 : Nat) (l0 : List (List ByteArray)) (a1 : ByteArray) (a2 : Int) (a3 : Int) (r : Bool) (w : World) (hr0 : Kd.C (Kd.slice 9 Kd.string) w A0 l0.length l0) (hc0 : l0.length ≤ c0) (h : parterrelaw16_NamesRising.f k l0 a1 a2 a3 = some r) :
    Calls Try.prog 4 #[.slice A0 l0.length c0, .string a1, .int .i64 a2, .int .i64 a3] w fun e w' => e = .returned (.bool r) ∧ Below w.heap.size w w' := by
  have HR0 := Aside0.mk hr0
  have HC0 := Aside0.mk hc0
  clear hr0 hc0
  have HB := Aside0.mk (Below.refl w.heap.size w)
  have H : ((parterrelaw16_light.f k l0).bind fun t140 => (if t140 = true then (parterrelaw16_NamesRising.j0 k l0 a1 a2 (wrap64 (1 + (wrap64 (Int.tmod (IntKind.u64.wrap (a3)) 500)))) ((l0.length : Int) == 0)) else (parterrelaw16_NamesRising.j0 k l0 a1 a2 (wrap64 (1 + (wrap64 (Int.tmod (IntKind.u64.wrap (a3)) 500)))) true))) = some r := h
  clear h
  have HC5 := Aside0.mk H
  clear H
  go_enter Try.func4, Try.ntmps4
  go_upto_region 2 with (fail)
  go_cut [23] (fun v23 wc => ∃ (kq : Nat) (x23_4 : Bool), v23 = .bool x23_4 ∧ Aside0 (parterrelaw16_NamesRising.j0 kq l0 a1 a2 (wrap64 (1 + (wrap64 (Int.tmod (IntKind.u64.wrap (a3)) 500)))) x23_4 = some r) ∧ Aside0 (kq ≤ k) ∧ Aside0 (Below w.heap.size w wc))
  case first =>
    have H := HC5.out
    clear HC5
    replace H := Option.bind_eq_some_iff.mp H
    obtain ⟨t140, A60, H⟩ := H
    replace H : (if t140 = true then (parterrelaw16_NamesRising.j0 k l0 a1 a2 (wrap64 (1 + (wrap64 (Int.tmod (IntKind.u64.wrap (a3)) 500)))) ((l0.length : Int) == 0)) else (parterrelaw16_NamesRising.j0 k l0 a1 a2 (wrap64 (1 + (wrap64 (Int.tmod (IntKind.u64.wrap (a3)) 500)))) true)) = some r := H
    have A6 := Aside0.mk A60
    clear A60
    by_cases c7 : t140 = true
    · subst c7
      have H1 : (parterrelaw16_NamesRising.j0 k l0 a1 a2 (wrap64 (1 + (wrap64 (Int.tmod (IntKind.u64.wrap (a3)) 500)))) ((l0.length : Int) == 0)) = some r := by rw [if_pos rfl] at H; exact H
      clear H
      have H := H1
      clear H1
      have H' := Aside0.mk H
      clear H
      go_wp2_with (first | ((with_reducible refine gate_callee (f := 14) rfl ?_); refine goesL_ (some 17) rfl rfl Try.func14 (by kernel_rfl) rfl #[.slice A0 l0.length c0] rfl (by (try simp only [List.map_toArray, List.map_cons, List.map_nil]); first | done | rfl | (simp only [List.length_drop, List.length_take]; rfl)) ?_; (with_reducible refine (parterrelaw16_light.calls k _ _ l0 true _ ?side1 ?side2 A6.out).mono ?_); (case side1 => repeat (first | exact (Kd.C_below HR0.out HB.out) | (with_reducible refine Kd.C_alloc ?_ _) | (with_reducible refine Kd.C_drewN ?_ _) | (with_reducible refine Kd.C_drew ?_))); (case side2 => exact HC0.out); rintro e w8 ⟨rfl, hb⟩; refine ⟨_, rfl, ?_⟩; have n0_ := Aside0.mk (below_step (by repeat (first | (with_reducible first | exact HB.out | apply below_alloc | apply pw_below_drewN | apply below_drew1) | exact HB.out)) hb); clear HB; have HB := n0_; clear n0_; (try clear hb); (try clear hb2); (try clear hk); (try clear hi)))
      go_meet
      case rel => exact ⟨_, (((l0.length : Int) == 0)), (by first | rfl | (simp; done) | (simp [*]; done)), H', ⟨by first | omega | exact Nat.le_refl _⟩, ⟨by repeat (first | (with_reducible first | exact HB.out | apply below_alloc | apply pw_below_drewN | apply below_drew1) | exact HB.out)⟩⟩
    · replace c7 := Bool.eq_false_iff.mpr c7
      subst c7
      have H1 : (parterrelaw16_NamesRising.j0 k l0 a1 a2 (wrap64 (1 + (wrap64 (Int.tmod (IntKind.u64.wrap (a3)) 500)))) true) = some r := by rw [if_neg (show ¬ (false = true) by decide)] at H; exact H
      clear H
      have H := H1
      clear H1
      have H' := Aside0.mk H
      clear H
      go_wp2_with (first | ((with_reducible refine gate_callee (f := 14) rfl ?_); refine goesL_ (some 17) rfl rfl Try.func14 (by kernel_rfl) rfl #[.slice A0 l0.length c0] rfl (by (try simp only [List.map_toArray, List.map_cons, List.map_nil]); first | done | rfl | (simp only [List.length_drop, List.length_take]; rfl)) ?_; (with_reducible refine (parterrelaw16_light.calls k _ _ l0 false _ ?side1 ?side2 A6.out).mono ?_); (case side1 => repeat (first | exact (Kd.C_below HR0.out HB.out) | (with_reducible refine Kd.C_alloc ?_ _) | (with_reducible refine Kd.C_drewN ?_ _) | (with_reducible refine Kd.C_drew ?_))); (case side2 => exact HC0.out); rintro e w9 ⟨rfl, hb⟩; refine ⟨_, rfl, ?_⟩; have n0_ := Aside0.mk (below_step (by repeat (first | (with_reducible first | exact HB.out | apply below_alloc | apply pw_below_drewN | apply below_drew1) | exact HB.out)) hb); clear HB; have HB := n0_; clear n0_; (try clear hb); (try clear hb2); (try clear hk); (try clear hi)))
      go_meet
      case rel => exact ⟨_, (true), (by first | rfl | (simp; done) | (simp [*]; done)), H', ⟨by first | omega | exact Nat.le_refl _⟩, ⟨by repeat (first | (with_reducible first | exact HB.out | apply below_alloc | apply pw_below_drewN | apply below_drew1) | exact HB.out)⟩⟩
  case rest =>
    clear HC5
    try clear c1
    try clear p2
    try clear c4
    try clear p6
    try clear c7
    obtain ⟨kq, x23_4, rfl, HA, HJ4, HB⟩ := hcut
    cases kq with
    | zero => exact absurd HA.out (by simp [parterrelaw16_NamesRising.j0])
    | succ kj4 =>
      have H := HA.out
      clear HA
      simp only [parterrelaw16_NamesRising.j0] at H
      by_cases c10 : x23_4 = true
      · subst c10
        have H1 : ((parterrelaw16_lives.f kj4).bind fun t141 => (some t141)) = some r := by rw [if_pos rfl] at H; exact H
        clear H
        have H := H1
        clear H1
        replace H := Option.bind_eq_some_iff.mp H
        obtain ⟨t141, A110, H⟩ := H
        replace H : (some t141) = some r := H
        have A11 := Aside0.mk A110
        clear A110
        obtain rfl := Option.some.inj H
        go_wp2_with (first | ((with_reducible refine gate_callee (f := 15) rfl ?_); refine goesL_ (some 24) rfl rfl Try.func15 (by kernel_rfl) rfl #[] rfl (by (try simp only [List.map_toArray, List.map_cons, List.map_nil]); first | done | rfl | (simp only [List.length_drop, List.length_take]; rfl)) ?_; (with_reducible refine (parterrelaw16_lives.calls kj4  t141 _ A11.out).mono ?_); rintro e w12 ⟨rfl, hb⟩; refine ⟨_, rfl, ?_⟩; have n0_ := Aside0.mk (below_step (by repeat (first | (with_reducible first | exact HB.out | apply below_alloc | apply pw_below_drewN | apply below_drew1) | exact HB.out)) hb); clear HB; have HB := n0_; clear n0_; (try clear hb); (try clear hb2); (try clear hk); (try clear hi)))
        go_ret
        exact ⟨by first | rfl | (simp [errW_none, errW_some] <;> rfl) | (simp [*, errW_none, errW_some] <;> rfl), by repeat (first | (with_reducible first | exact HB.out | apply below_alloc | apply pw_below_drewN | apply below_drew1) | exact HB.out)⟩
      · replace c10 := Bool.eq_false_iff.mpr c10
        subst c10
        have H1 : (if (IntKind.u64.wrap ((l0.length : Int))) = 0 then (none) else ((names_Nth.f kj4 l0 a1 (wrap64 (1 + (wrap64 (Int.tmod (IntKind.u64.wrap (a3)) 500))))).bind fun t142 => ((names_Nth.f kj4 l0 a1 (wrap64 ((wrap64 (1 + (wrap64 (Int.tmod (IntKind.u64.wrap (a3)) 500)))) + 1))).bind fun t143 => (if t142 ≥ t143 then (parterrelaw16_NamesRising.j1 kj4 l0 (wrap64 (1 + (wrap64 (Int.tmod (IntKind.u64.wrap (a3)) 500)))) (wrap64 (Int.tmod (IntKind.u64.wrap (a2)) (IntKind.u64.wrap ((l0.length : Int))))) true) else ((names_Nth.f kj4 l0 a1 (wrap64 (-(wrap64 (1 + (wrap64 (Int.tmod (IntKind.u64.wrap (a3)) 500))))))).bind fun t144 => ((names_Nth.f kj4 l0 a1 (wrap64 ((wrap64 (-(wrap64 (1 + (wrap64 (Int.tmod (IntKind.u64.wrap (a3)) 500)))))) - 1))).bind fun t145 => (if t144 ≤ t145 then (parterrelaw16_NamesRising.j1 kj4 l0 (wrap64 (1 + (wrap64 (Int.tmod (IntKind.u64.wrap (a3)) 500)))) (wrap64 (Int.tmod (IntKind.u64.wrap (a2)) (IntKind.u64.wrap ((l0.length : Int))))) true) else ((names_Along.f kj4 l0 a1 (wrap64 (Int.tmod (IntKind.u64.wrap (a2)) (IntKind.u64.wrap ((l0.length : Int))))) (wrap64 (1 + (wrap64 (Int.tmod (IntKind.u64.wrap (a3)) 500))))).bind fun t146 => ((names_Along.f kj4 l0 a1 (wrap64 (Int.tmod (IntKind.u64.wrap (a2)) (IntKind.u64.wrap ((l0.length : Int))))) (wrap64 ((wrap64 (1 + (wrap64 (Int.tmod (IntKind.u64.wrap (a3)) 500)))) + 1))).bind fun t147 => (if t146 ≥ t147 then (parterrelaw16_NamesRising.j1 kj4 l0 (wrap64 (1 + (wrap64 (Int.tmod (IntKind.u64.wrap (a3)) 500)))) (wrap64 (Int.tmod (IntKind.u64.wrap (a2)) (IntKind.u64.wrap ((l0.length : Int))))) true) else ((names_Along.f kj4 l0 a1 (wrap64 (Int.tmod (IntKind.u64.wrap (a2)) (IntKind.u64.wrap ((l0.length : Int))))) (wrap64 (-(wrap64 (1 + (wrap64 (Int.tmod (IntKind.u64.wrap (a3)) 500))))))).bind fun t148 => ((names_Along.f kj4 l0 a1 (wrap64 (Int.tmod (IntKind.u64.wrap (a2)) (IntKind.u64.wrap ((l0.length : Int))))) (wrap64 ((wrap64 (-(wrap64 (1 + (wrap64 (Int.tmod (IntKind.u64.wrap (a3)) 500)))))) - 1))).bind fun t149 => (parterrelaw16_NamesRising.j1 kj4 l0 (wrap64 (1 + (wrap64 (Int.tmod (IntKind.u64.wrap (a3)) 500)))) (wrap64 (Int.tmod (IntKind.u64.wrap (a2)) (IntKind.u64.wrap ((l0.length : Int))))) (decide (t148 ≤ t149))))))))))))))) = some r := by rw [if_neg (show ¬ (false = true) by decide)] at H; exact H
        clear H
        have H := H1
        clear H1
        by_cases c13 : (IntKind.u64.wrap ((l0.length : Int))) = 0
        · rw [if_pos c13] at H
          exact absurd H (by simp)
        · rw [if_neg c13] at H
          have c13b0 : ((IntKind.u64.wrap ((l0.length : Int))) == 0) = false := beq_eq_false_iff_ne.mpr c13
          have c13b1 : ((IntKind.u64.wrap ((l0.length : Int))) != 0) = true := bne_iff_ne.mpr c13
          have HC14 := Aside0.mk H
          clear H
          go_upto_region 5 with (fail)
          go_cut [85] (fun v85 wc => ∃ (kq : Nat) (x85_13 : Bool), v85 = .bool x85_13 ∧ Aside0 (parterrelaw16_NamesRising.j1 kq l0 (wrap64 (1 + (wrap64 (Int.tmod (IntKind.u64.wrap (a3)) 500)))) (wrap64 (Int.tmod (IntKind.u64.wrap (a2)) (IntKind.u64.wrap ((l0.length : Int))))) x85_13 = some r) ∧ Aside0 (kq ≤ kj4) ∧ Aside0 (Below w.heap.size w wc))
          case first =>
            have H := HC14.out
            clear HC14
            replace H := Option.bind_eq_some_iff.mp H
            obtain ⟨t142, A150, H⟩ := H
            replace H : ((names_Nth.f kj4 l0 a1 (wrap64 ((wrap64 (1 + (wrap64 (Int.tmod (IntKind.u64.wrap (a3)) 500)))) + 1))).bind fun t143 => (if t142 ≥ t143 then (parterrelaw16_NamesRising.j1 kj4 l0 (wrap64 (1 + (wrap64 (Int.tmod (IntKind.u64.wrap (a3)) 500)))) (wrap64 (Int.tmod (IntKind.u64.wrap (a2)) (IntKind.u64.wrap ((l0.length : Int))))) true) else ((names_Nth.f kj4 l0 a1 (wrap64 (-(wrap64 (1 + (wrap64 (Int.tmod (IntKind.u64.wrap (a3)) 500))))))).bind fun t144 => ((names_Nth.f kj4 l0 a1 (wrap64 ((wrap64 (-(wrap64 (1 + (wrap64 (Int.tmod (IntKind.u64.wrap (a3)) 500)))))) - 1))).bind fun t145 => (if t144 ≤ t145 then (parterrelaw16_NamesRising.j1 kj4 l0 (wrap64 (1 + (wrap64 (Int.tmod (IntKind.u64.wrap (a3)) 500)))) (wrap64 (Int.tmod (IntKind.u64.wrap (a2)) (IntKind.u64.wrap ((l0.length : Int))))) true) else ((names_Along.f kj4 l0 a1 (wrap64 (Int.tmod (IntKind.u64.wrap (a2)) (IntKind.u64.wrap ((l0.length : Int))))) (wrap64 (1 + (wrap64 (Int.tmod (IntKind.u64.wrap (a3)) 500))))).bind fun t146 => ((names_Along.f kj4 l0 a1 (wrap64 (Int.tmod (IntKind.u64.wrap (a2)) (IntKind.u64.wrap ((l0.length : Int))))) (wrap64 ((wrap64 (1 + (wrap64 (Int.tmod (IntKind.u64.wrap (a3)) 500)))) + 1))).bind fun t147 => (if t146 ≥ t147 then (parterrelaw16_NamesRising.j1 kj4 l0 (wrap64 (1 + (wrap64 (Int.tmod (IntKind.u64.wrap (a3)) 500)))) (wrap64 (Int.tmod (IntKind.u64.wrap (a2)) (IntKind.u64.wrap ((l0.length : Int))))) true) else ((names_Along.f kj4 l0 a1 (wrap64 (Int.tmod (IntKind.u64.wrap (a2)) (IntKind.u64.wrap ((l0.length : Int))))) (wrap64 (-(wrap64 (1 + (wrap64 (Int.tmod (IntKind.u64.wrap (a3)) 500))))))).bind fun t148 => ((names_Along.f kj4 l0 a1 (wrap64 (Int.tmod (IntKind.u64.wrap (a2)) (IntKind.u64.wrap ((l0.length : Int))))) (wrap64 ((wrap64 (-(wrap64 (1 + (wrap64 (Int.tmod (IntKind.u64.wrap (a3)) 500)))))) - 1))).bind fun t149 => (parterrelaw16_NamesRising.j1 kj4 l0 (wrap64 (1 + (wrap64 (Int.tmod (IntKind.u64.wrap (a3)) 500)))) (wrap64 (Int.tmod (IntKind.u64.wrap (a2)) (IntKind.u64.wrap ((l0.length : Int))))) (decide (t148 ≤ t149))))))))))))) = some r := H
            have A15 := Aside0.mk A150
            clear A150
            replace H := Option.bind_eq_some_iff.mp H
            obtain ⟨t143, A160, H⟩ := H
            replace H : (if t142 ≥ t143 then (parterrelaw16_NamesRising.j1 kj4 l0 (wrap64 (1 + (wrap64 (Int.tmod (IntKind.u64.wrap (a3)) 500)))) (wrap64 (Int.tmod (IntKind.u64.wrap (a2)) (IntKind.u64.wrap ((l0.length : Int))))) true) else ((names_Nth.f kj4 l0 a1 (wrap64 (-(wrap64 (1 + (wrap64 (Int.tmod (IntKind.u64.wrap (a3)) 500))))))).bind fun t144 => ((names_Nth.f kj4 l0 a1 (wrap64 ((wrap64 (-(wrap64 (1 + (wrap64 (Int.tmod (IntKind.u64.wrap (a3)) 500)))))) - 1))).bind fun t145 => (if t144 ≤ t145 then (parterrelaw16_NamesRising.j1 kj4 l0 (wrap64 (1 + (wrap64 (Int.tmod (IntKind.u64.wrap (a3)) 500)))) (wrap64 (Int.tmod (IntKind.u64.wrap (a2)) (IntKind.u64.wrap ((l0.length : Int))))) true) else ((names_Along.f kj4 l0 a1 (wrap64 (Int.tmod (IntKind.u64.wrap (a2)) (IntKind.u64.wrap ((l0.length : Int))))) (wrap64 (1 + (wrap64 (Int.tmod (IntKind.u64.wrap (a3)) 500))))).bind fun t146 => ((names_Along.f kj4 l0 a1 (wrap64 (Int.tmod (IntKind.u64.wrap (a2)) (IntKind.u64.wrap ((l0.length : Int))))) (wrap64 ((wrap64 (1 + (wrap64 (Int.tmod (IntKind.u64.wrap (a3)) 500)))) + 1))).bind fun t147 => (if t146 ≥ t147 then (parterrelaw16_NamesRising.j1 kj4 l0 (wrap64 (1 + (wrap64 (Int.tmod (IntKind.u64.wrap (a3)) 500)))) (wrap64 (Int.tmod (IntKind.u64.wrap (a2)) (IntKind.u64.wrap ((l0.length : Int))))) true) else ((names_Along.f kj4 l0 a1 (wrap64 (Int.tmod (IntKind.u64.wrap (a2)) (IntKind.u64.wrap ((l0.length : Int))))) (wrap64 (-(wrap64 (1 + (wrap64 (Int.tmod (IntKind.u64.wrap (a3)) 500))))))).bind fun t148 => ((names_Along.f kj4 l0 a1 (wrap64 (Int.tmod (IntKind.u64.wrap (a2)) (IntKind.u64.wrap ((l0.length : Int))))) (wrap64 ((wrap64 (-(wrap64 (1 + (wrap64 (Int.tmod (IntKind.u64.wrap (a3)) 500)))))) - 1))).bind fun t149 => (parterrelaw16_NamesRising.j1 kj4 l0 (wrap64 (1 + (wrap64 (Int.tmod (IntKind.u64.wrap (a3)) 500)))) (wrap64 (Int.tmod (IntKind.u64.wrap (a2)) (IntKind.u64.wrap ((l0.length : Int))))) (decide (t148 ≤ t149)))))))))))) = some r := H
            have A16 := Aside0.mk A160
            clear A160
            by_cases c17 : t142 ≥ t143
            · rw [if_pos c17] at H
              have c17b0 : decide (t143 ≤ t142) = true := decide_eq_true c17
              clear c17
              (first | rw [c17b0] | (simp only [i64_w, i32_w]; rw [c17b0]) | skip)
              have H' := Aside0.mk H
              clear H
              go_wp2_with (first | ((with_reducible refine gate_callee (f := 18) rfl ?_); refine goesL_ (some 35) rfl rfl Try.func18 (by kernel_rfl) rfl #[.slice A0 l0.length c0, .string a1, .int .i64 (wrap64 (1 + (wrap64 (Int.tmod (IntKind.u64.wrap (a3)) 500))))] rfl (by (try simp only [List.map_toArray, List.map_cons, List.map_nil]); first | done | rfl | (simp only [List.length_drop, List.length_take]; rfl)) ?_; (with_reducible refine (names_Nth.calls kj4 _ _ l0 a1 (wrap64 (1 + (wrap64 (Int.tmod (IntKind.u64.wrap (a3)) 500)))) t142 _ ?side1 ?side2 A15.out).mono ?_); (case side1 => repeat (first | exact (Kd.C_below HR0.out HB.out) | (with_reducible refine Kd.C_alloc ?_ _) | (with_reducible refine Kd.C_drewN ?_ _) | (with_reducible refine Kd.C_drew ?_))); (case side2 => exact HC0.out); rintro e w18 ⟨rfl, hb⟩; refine ⟨_, rfl, ?_⟩; have n0_ := Aside0.mk (below_step (by repeat (first | (with_reducible first | exact HB.out | apply below_alloc | apply pw_below_drewN | apply below_drew1) | exact HB.out)) hb); clear HB; have HB := n0_; clear n0_; (try clear hb); (try clear hb2); (try clear hk); (try clear hi)) | ((with_reducible refine gate_callee (f := 18) rfl ?_); refine goesL_ (some 40) rfl rfl Try.func18 (by kernel_rfl) rfl #[.slice A0 l0.length c0, .string a1, .int .i64 (wrap64 ((wrap64 (1 + (wrap64 (Int.tmod (IntKind.u64.wrap (a3)) 500)))) + 1))] rfl (by (try simp only [List.map_toArray, List.map_cons, List.map_nil]); first | done | rfl | (simp only [List.length_drop, List.length_take]; rfl)) ?_; (with_reducible refine (names_Nth.calls kj4 _ _ l0 a1 (wrap64 ((wrap64 (1 + (wrap64 (Int.tmod (IntKind.u64.wrap (a3)) 500)))) + 1)) t143 _ ?side1 ?side2 A16.out).mono ?_); (case side1 => repeat (first | exact (Kd.C_below HR0.out HB.out) | (with_reducible refine Kd.C_alloc ?_ _) | (with_reducible refine Kd.C_drewN ?_ _) | (with_reducible refine Kd.C_drew ?_))); (case side2 => exact HC0.out); rintro e w19 ⟨rfl, hb⟩; refine ⟨_, rfl, ?_⟩; have n0_ := Aside0.mk (below_step (by repeat (first | (with_reducible first | exact HB.out | apply below_alloc | apply pw_below_drewN | apply below_drew1) | exact HB.out)) hb); clear HB; have HB := n0_; clear n0_; (try clear hb); (try clear hb2); (try clear hk); (try clear hi)))
              go_meet
              case rel => exact ⟨_, (true), (by first | rfl | (simp; done) | (simp [*]; done)), H', ⟨by have := HJ4.out; first | omega | exact Nat.le_refl _⟩, ⟨by repeat (first | (with_reducible first | exact HB.out | apply below_alloc | apply pw_below_drewN | apply below_drew1) | exact HB.out)⟩⟩
            · rw [if_neg c17] at H
              have c17b0 : decide (t143 ≤ t142) = false := decide_eq_false c17
              clear c17
              (first | rw [c17b0] | (simp only [i64_w, i32_w]; rw [c17b0]) | skip)
              replace H := Option.bind_eq_some_iff.mp H
              obtain ⟨t144, A200, H⟩ := H
              replace H : ((names_Nth.f kj4 l0 a1 (wrap64 ((wrap64 (-(wrap64 (1 + (wrap64 (Int.tmod (IntKind.u64.wrap (a3)) 500)))))) - 1))).bind fun t145 => (if t144 ≤ t145 then (parterrelaw16_NamesRising.j1 kj4 l0 (wrap64 (1 + (wrap64 (Int.tmod (IntKind.u64.wrap (a3)) 500)))) (wrap64 (Int.tmod (IntKind.u64.wrap (a2)) (IntKind.u64.wrap ((l0.length : Int))))) true) else ((names_Along.f kj4 l0 a1 (wrap64 (Int.tmod (IntKind.u64.wrap (a2)) (IntKind.u64.wrap ((l0.length : Int))))) (wrap64 (1 + (wrap64 (Int.tmod (IntKind.u64.wrap (a3)) 500))))).bind fun t146 => ((names_Along.f kj4 l0 a1 (wrap64 (Int.tmod (IntKind.u64.wrap (a2)) (IntKind.u64.wrap ((l0.length : Int))))) (wrap64 ((wrap64 (1 + (wrap64 (Int.tmod (IntKind.u64.wrap (a3)) 500)))) + 1))).bind fun t147 => (if t146 ≥ t147 then (parterrelaw16_NamesRising.j1 kj4 l0 (wrap64 (1 + (wrap64 (Int.tmod (IntKind.u64.wrap (a3)) 500)))) (wrap64 (Int.tmod (IntKind.u64.wrap (a2)) (IntKind.u64.wrap ((l0.length : Int))))) true) else ((names_Along.f kj4 l0 a1 (wrap64 (Int.tmod (IntKind.u64.wrap (a2)) (IntKind.u64.wrap ((l0.length : Int))))) (wrap64 (-(wrap64 (1 + (wrap64 (Int.tmod (IntKind.u64.wrap (a3)) 500))))))).bind fun t148 => ((names_Along.f kj4 l0 a1 (wrap64 (Int.tmod (IntKind.u64.wrap (a2)) (IntKind.u64.wrap ((l0.length : Int))))) (wrap64 ((wrap64 (-(wrap64 (1 + (wrap64 (Int.tmod (IntKind.u64.wrap (a3)) 500)))))) - 1))).bind fun t149 => (parterrelaw16_NamesRising.j1 kj4 l0 (wrap64 (1 + (wrap64 (Int.tmod (IntKind.u64.wrap (a3)) 500)))) (wrap64 (Int.tmod (IntKind.u64.wrap (a2)) (IntKind.u64.wrap ((l0.length : Int))))) (decide (t148 ≤ t149)))))))))) = some r := H
              have A20 := Aside0.mk A200
              clear A200
              replace H := Option.bind_eq_some_iff.mp H
              obtain ⟨t145, A210, H⟩ := H
              replace H : (if t144 ≤ t145 then (parterrelaw16_NamesRising.j1 kj4 l0 (wrap64 (1 + (wrap64 (Int.tmod (IntKind.u64.wrap (a3)) 500)))) (wrap64 (Int.tmod (IntKind.u64.wrap (a2)) (IntKind.u64.wrap ((l0.length : Int))))) true) else ((names_Along.f kj4 l0 a1 (wrap64 (Int.tmod (IntKind.u64.wrap (a2)) (IntKind.u64.wrap ((l0.length : Int))))) (wrap64 (1 + (wrap64 (Int.tmod (IntKind.u64.wrap (a3)) 500))))).bind fun t146 => ((names_Along.f kj4 l0 a1 (wrap64 (Int.tmod (IntKind.u64.wrap (a2)) (IntKind.u64.wrap ((l0.length : Int))))) (wrap64 ((wrap64 (1 + (wrap64 (Int.tmod (IntKind.u64.wrap (a3)) 500)))) + 1))).bind fun t147 => (if t146 ≥ t147 then (parterrelaw16_NamesRising.j1 kj4 l0 (wrap64 (1 + (wrap64 (Int.tmod (IntKind.u64.wrap (a3)) 500)))) (wrap64 (Int.tmod (IntKind.u64.wrap (a2)) (IntKind.u64.wrap ((l0.length : Int))))) true) else ((names_Along.f kj4 l0 a1 (wrap64 (Int.tmod (IntKind.u64.wrap (a2)) (IntKind.u64.wrap ((l0.length : Int))))) (wrap64 (-(wrap64 (1 + (wrap64 (Int.tmod (IntKind.u64.wrap (a3)) 500))))))).bind fun t148 => ((names_Along.f kj4 l0 a1 (wrap64 (Int.tmod (IntKind.u64.wrap (a2)) (IntKind.u64.wrap ((l0.length : Int))))) (wrap64 ((wrap64 (-(wrap64 (1 + (wrap64 (Int.tmod (IntKind.u64.wrap (a3)) 500)))))) - 1))).bind fun t149 => (parterrelaw16_NamesRising.j1 kj4 l0 (wrap64 (1 + (wrap64 (Int.tmod (IntKind.u64.wrap (a3)) 500)))) (wrap64 (Int.tmod (IntKind.u64.wrap (a2)) (IntKind.u64.wrap ((l0.length : Int))))) (decide (t148 ≤ t149))))))))) = some r := H
              have A21 := Aside0.mk A210
              clear A210
              by_cases c22 : t144 ≤ t145
              · rw [if_pos c22] at H
                have c22b0 : decide (t144 ≤ t145) = true := decide_eq_true c22
                clear c22
                have H' := Aside0.mk H
                clear H
                go_wp2_with (first | ((with_reducible refine gate_callee (f := 18) rfl ?_); refine goesL_ (some 35) rfl rfl Try.func18 (by kernel_rfl) rfl #[.slice A0 l0.length c0, .string a1, .int .i64 (wrap64 (1 + (wrap64 (Int.tmod (IntKind.u64.wrap (a3)) 500))))] rfl (by (try simp only [List.map_toArray, List.map_cons, List.map_nil]); first | done | rfl | (simp only [List.length_drop, List.length_take]; rfl)) ?_; (with_reducible refine (names_Nth.calls kj4 _ _ l0 a1 (wrap64 (1 + (wrap64 (Int.tmod (IntKind.u64.wrap (a3)) 500)))) t142 _ ?side1 ?side2 A15.out).mono ?_); (case side1 => repeat (first | exact (Kd.C_below HR0.out HB.out) | (with_reducible refine Kd.C_alloc ?_ _) | (with_reducible refine Kd.C_drewN ?_ _) | (with_reducible refine Kd.C_drew ?_))); (case side2 => exact HC0.out); rintro e w23 ⟨rfl, hb⟩; refine ⟨_, rfl, ?_⟩; have n0_ := Aside0.mk (below_step (by repeat (first | (with_reducible first | exact HB.out | apply below_alloc | apply pw_below_drewN | apply below_drew1) | exact HB.out)) hb); clear HB; have HB := n0_; clear n0_; (try clear hb); (try clear hb2); (try clear hk); (try clear hi)) | ((with_reducible refine gate_callee (f := 18) rfl ?_); refine goesL_ (some 40) rfl rfl Try.func18 (by kernel_rfl) rfl #[.slice A0 l0.length c0, .string a1, .int .i64 (wrap64 ((wrap64 (1 + (wrap64 (Int.tmod (IntKind.u64.wrap (a3)) 500)))) + 1))] rfl (by (try simp only [List.map_toArray, List.map_cons, List.map_nil]); first | done | rfl | (simp only [List.length_drop, List.length_take]; rfl)) ?_; (with_reducible refine (names_Nth.calls kj4 _ _ l0 a1 (wrap64 ((wrap64 (1 + (wrap64 (Int.tmod (IntKind.u64.wrap (a3)) 500)))) + 1)) t143 _ ?side1 ?side2 A16.out).mono ?_); (case side1 => repeat (first | exact (Kd.C_below HR0.out HB.out) | (with_reducible refine Kd.C_alloc ?_ _) | (with_reducible refine Kd.C_drewN ?_ _) | (with_reducible refine Kd.C_drew ?_))); (case side2 => exact HC0.out); rintro e w24 ⟨rfl, hb⟩; refine ⟨_, rfl, ?_⟩; have n0_ := Aside0.mk (below_step (by repeat (first | (with_reducible first | exact HB.out | apply below_alloc | apply pw_below_drewN | apply below_drew1) | exact HB.out)) hb); clear HB; have HB := n0_; clear n0_; (try clear hb); (try clear hb2); (try clear hk); (try clear hi)) | (go_at_call 18; (with_reducible refine (names_Nth.calls kj4 _ _ l0 a1 (wrap64 (-(wrap64 (1 + (wrap64 (Int.tmod (IntKind.u64.wrap (a3)) 500)))))) t144 _ ?side1 ?side2 A20.out).mono ?_); (case side1 => repeat (first | exact (Kd.C_below HR0.out HB.out) | (with_reducible refine Kd.C_alloc ?_ _) | (with_reducible refine Kd.C_drewN ?_ _) | (with_reducible refine Kd.C_drew ?_))); (case side2 => exact HC0.out); rintro e w25 ⟨rfl, hb⟩; have n0_ := Aside0.mk (below_step (by repeat (first | (with_reducible first | exact HB.out | apply below_alloc | apply pw_below_drewN | apply below_drew1) | exact HB.out)) hb); clear HB; have HB := n0_; clear n0_; (try clear hb); (try clear hb2); (try clear hk); (try clear hi)) | (go_at_call 18; (with_reducible refine (names_Nth.calls kj4 _ _ l0 a1 (wrap64 ((wrap64 (-(wrap64 (1 + (wrap64 (Int.tmod (IntKind.u64.wrap (a3)) 500)))))) - 1)) t145 _ ?side1 ?side2 A21.out).mono ?_); (case side1 => repeat (first | exact (Kd.C_below HR0.out HB.out) | (with_reducible refine Kd.C_alloc ?_ _) | (with_reducible refine Kd.C_drewN ?_ _) | (with_reducible refine Kd.C_drew ?_))); (case side2 => exact HC0.out); rintro e w26 ⟨rfl, hb⟩; have n0_ := Aside0.mk (below_step (by repeat (first | (with_reducible first | exact HB.out | apply below_alloc | apply pw_below_drewN | apply below_drew1) | exact HB.out)) hb); clear HB; have HB := n0_; clear n0_; (try clear hb); (try clear hb2); (try clear hk); (try clear hi)))
                go_meet
                case rel => exact ⟨_, (true), (by first | rfl | (simp; done) | (simp [*]; done)), H', ⟨by have := HJ4.out; first | omega | exact Nat.le_refl _⟩, ⟨by repeat (first | (with_reducible first | exact HB.out | apply below_alloc | apply pw_below_drewN | apply below_drew1) | exact HB.out)⟩⟩
              · rw [if_neg c22] at H
                have c22b0 : decide (t144 ≤ t145) = false := decide_eq_false c22
                clear c22
                replace H := Option.bind_eq_some_iff.mp H
                obtain ⟨t146, A270, H⟩ := H
                replace H : ((names_Along.f kj4 l0 a1 (wrap64 (Int.tmod (IntKind.u64.wrap (a2)) (IntKind.u64.wrap ((l0.length : Int))))) (wrap64 ((wrap64 (1 + (wrap64 (Int.tmod (IntKind.u64.wrap (a3)) 500)))) + 1))).bind fun t147 => (if t146 ≥ t147 then (parterrelaw16_NamesRising.j1 kj4 l0 (wrap64 (1 + (wrap64 (Int.tmod (IntKind.u64.wrap (a3)) 500)))) (wrap64 (Int.tmod (IntKind.u64.wrap (a2)) (IntKind.u64.wrap ((l0.length : Int))))) true) else ((names_Along.f kj4 l0 a1 (wrap64 (Int.tmod (IntKind.u64.wrap (a2)) (IntKind.u64.wrap ((l0.length : Int))))) (wrap64 (-(wrap64 (1 + (wrap64 (Int.tmod (IntKind.u64.wrap (a3)) 500))))))).bind fun t148 => ((names_Along.f kj4 l0 a1 (wrap64 (Int.tmod (IntKind.u64.wrap (a2)) (IntKind.u64.wrap ((l0.length : Int))))) (wrap64 ((wrap64 (-(wrap64 (1 + (wrap64 (Int.tmod (IntKind.u64.wrap (a3)) 500)))))) - 1))).bind fun t149 => (parterrelaw16_NamesRising.j1 kj4 l0 (wrap64 (1 + (wrap64 (Int.tmod (IntKind.u64.wrap (a3)) 500)))) (wrap64 (Int.tmod (IntKind.u64.wrap (a2)) (IntKind.u64.wrap ((l0.length : Int))))) (decide (t148 ≤ t149))))))) = some r := H
                have A27 := Aside0.mk A270
                clear A270
                replace H := Option.bind_eq_some_iff.mp H
                obtain ⟨t147, A280, H⟩ := H
                replace H : (if t146 ≥ t147 then (parterrelaw16_NamesRising.j1 kj4 l0 (wrap64 (1 + (wrap64 (Int.tmod (IntKind.u64.wrap (a3)) 500)))) (wrap64 (Int.tmod (IntKind.u64.wrap (a2)) (IntKind.u64.wrap ((l0.length : Int))))) true) else ((names_Along.f kj4 l0 a1 (wrap64 (Int.tmod (IntKind.u64.wrap (a2)) (IntKind.u64.wrap ((l0.length : Int))))) (wrap64 (-(wrap64 (1 + (wrap64 (Int.tmod (IntKind.u64.wrap (a3)) 500))))))).bind fun t148 => ((names_Along.f kj4 l0 a1 (wrap64 (Int.tmod (IntKind.u64.wrap (a2)) (IntKind.u64.wrap ((l0.length : Int))))) (wrap64 ((wrap64 (-(wrap64 (1 + (wrap64 (Int.tmod (IntKind.u64.wrap (a3)) 500)))))) - 1))).bind fun t149 => (parterrelaw16_NamesRising.j1 kj4 l0 (wrap64 (1 + (wrap64 (Int.tmod (IntKind.u64.wrap (a3)) 500)))) (wrap64 (Int.tmod (IntKind.u64.wrap (a2)) (IntKind.u64.wrap ((l0.length : Int))))) (decide (t148 ≤ t149)))))) = some r := H
                have A28 := Aside0.mk A280
                clear A280
                by_cases c29 : t146 ≥ t147
                · rw [if_pos c29] at H
                  have c29b0 : decide (t147 ≤ t146) = true := decide_eq_true c29
                  clear c29
                  have H' := Aside0.mk H
                  clear H
                  go_wp2_with (first | ((with_reducible refine gate_callee (f := 18) rfl ?_); refine goesL_ (some 35) rfl rfl Try.func18 (by kernel_rfl) rfl #[.slice A0 l0.length c0, .string a1, .int .i64 (wrap64 (1 + (wrap64 (Int.tmod (IntKind.u64.wrap (a3)) 500))))] rfl (by (try simp only [List.map_toArray, List.map_cons, List.map_nil]); first | done | rfl | (simp only [List.length_drop, List.length_take]; rfl)) ?_; (with_reducible refine (names_Nth.calls kj4 _ _ l0 a1 (wrap64 (1 + (wrap64 (Int.tmod (IntKind.u64.wrap (a3)) 500)))) t142 _ ?side1 ?side2 A15.out).mono ?_); (case side1 => repeat (first | exact (Kd.C_below HR0.out HB.out) | (with_reducible refine Kd.C_alloc ?_ _) | (with_reducible refine Kd.C_drewN ?_ _) | (with_reducible refine Kd.C_drew ?_))); (case side2 => exact HC0.out); rintro e w30 ⟨rfl, hb⟩; refine ⟨_, rfl, ?_⟩; have n0_ := Aside0.mk (below_step (by repeat (first | (with_reducible first | exact HB.out | apply below_alloc | apply pw_below_drewN | apply below_drew1) | exact HB.out)) hb); clear HB; have HB := n0_; clear n0_; (try clear hb); (try clear hb2); (try clear hk); (try clear hi)) | ((with_reducible refine gate_callee (f := 18) rfl ?_); refine goesL_ (some 40) rfl rfl Try.func18 (by kernel_rfl) rfl #[.slice A0 l0.length c0, .string a1, .int .i64 (wrap64 ((wrap64 (1 + (wrap64 (Int.tmod (IntKind.u64.wrap (a3)) 500)))) + 1))] rfl (by (try simp only [List.map_toArray, List.map_cons, List.map_nil]); first | done | rfl | (simp only [List.length_drop, List.length_take]; rfl)) ?_; (with_reducible refine (names_Nth.calls kj4 _ _ l0 a1 (wrap64 ((wrap64 (1 + (wrap64 (Int.tmod (IntKind.u64.wrap (a3)) 500)))) + 1)) t143 _ ?side1 ?side2 A16.out).mono ?_); (case side1 => repeat (first | exact (Kd.C_below HR0.out HB.out) | (with_reducible refine Kd.C_alloc ?_ _) | (with_reducible refine Kd.C_drewN ?_ _) | (with_reducible refine Kd.C_drew ?_))); (case side2 => exact HC0.out); rintro e w31 ⟨rfl, hb⟩; refine ⟨_, rfl, ?_⟩; have n0_ := Aside0.mk (below_step (by repeat (first | (with_reducible first | exact HB.out | apply below_alloc | apply pw_below_drewN | apply below_drew1) | exact HB.out)) hb); clear HB; have HB := n0_; clear n0_; (try clear hb); (try clear hb2); (try clear hk); (try clear hi)) | (go_at_call 18; (with_reducible refine (names_Nth.calls kj4 _ _ l0 a1 (wrap64 (-(wrap64 (1 + (wrap64 (Int.tmod (IntKind.u64.wrap (a3)) 500)))))) t144 _ ?side1 ?side2 A20.out).mono ?_); (case side1 => repeat (first | exact (Kd.C_below HR0.out HB.out) | (with_reducible refine Kd.C_alloc ?_ _) | (with_reducible refine Kd.C_drewN ?_ _) | (with_reducible refine Kd.C_drew ?_))); (case side2 => exact HC0.out); rintro e w32 ⟨rfl, hb⟩; have n0_ := Aside0.mk (below_step (by repeat (first | (with_reducible first | exact HB.out | apply below_alloc | apply pw_below_drewN | apply below_drew1) | exact HB.out)) hb); clear HB; have HB := n0_; clear n0_; (try clear hb); (try clear hb2); (try clear hk); (try clear hi)) | (go_at_call 18; (with_reducible refine (names_Nth.calls kj4 _ _ l0 a1 (wrap64 ((wrap64 (-(wrap64 (1 + (wrap64 (Int.tmod (IntKind.u64.wrap (a3)) 500)))))) - 1)) t145 _ ?side1 ?side2 A21.out).mono ?_); (case side1 => repeat (first | exact (Kd.C_below HR0.out HB.out) | (with_reducible refine Kd.C_alloc ?_ _) | (with_reducible refine Kd.C_drewN ?_ _) | (with_reducible refine Kd.C_drew ?_))); (case side2 => exact HC0.out); rintro e w33 ⟨rfl, hb⟩; have n0_ := Aside0.mk (below_step (by repeat (first | (with_reducible first | exact HB.out | apply below_alloc | apply pw_below_drewN | apply below_drew1) | exact HB.out)) hb); clear HB; have HB := n0_; clear n0_; (try clear hb); (try clear hb2); (try clear hk); (try clear hi)) | (go_at_call 16; (with_reducible refine (names_Along.calls kj4 _ _ l0 a1 (wrap64 (Int.tmod (IntKind.u64.wrap (a2)) (IntKind.u64.wrap ((l0.length : Int))))) (wrap64 (1 + (wrap64 (Int.tmod (IntKind.u64.wrap (a3)) 500)))) t146 _ ?side1 ?side2 A27.out).mono ?_); (case side1 => repeat (first | exact (Kd.C_below HR0.out HB.out) | (with_reducible refine Kd.C_alloc ?_ _) | (with_reducible refine Kd.C_drewN ?_ _) | (with_reducible refine Kd.C_drew ?_))); (case side2 => exact HC0.out); rintro e w34 ⟨rfl, hb⟩; have n0_ := Aside0.mk (below_step (by repeat (first | (with_reducible first | exact HB.out | apply below_alloc | apply pw_below_drewN | apply below_drew1) | exact HB.out)) hb); clear HB; have HB := n0_; clear n0_; (try clear hb); (try clear hb2); (try clear hk); (try clear hi)) | (go_at_call 16; (with_reducible refine (names_Along.calls kj4 _ _ l0 a1 (wrap64 (Int.tmod (IntKind.u64.wrap (a2)) (IntKind.u64.wrap ((l0.length : Int))))) (wrap64 ((wrap64 (1 + (wrap64 (Int.tmod (IntKind.u64.wrap (a3)) 500)))) + 1)) t147 _ ?side1 ?side2 A28.out).mono ?_); (case side1 => repeat (first | exact (Kd.C_below HR0.out HB.out) | (with_reducible refine Kd.C_alloc ?_ _) | (with_reducible refine Kd.C_drewN ?_ _) | (with_reducible refine Kd.C_drew ?_))); (case side2 => exact HC0.out); rintro e w35 ⟨rfl, hb⟩; have n0_ := Aside0.mk (below_step (by repeat (first | (with_reducible first | exact HB.out | apply below_alloc | apply pw_below_drewN | apply below_drew1) | exact HB.out)) hb); clear HB; have HB := n0_; clear n0_; (try clear hb); (try clear hb2); (try clear hk); (try clear hi)))
                  go_meet
                  case rel => exact ⟨_, (true), (by first | rfl | (simp; done) | (simp [*]; done)), H', ⟨by have := HJ4.out; first | omega | exact Nat.le_refl _⟩, ⟨by repeat (first | (with_reducible first | exact HB.out | apply below_alloc | apply pw_below_drewN | apply below_drew1) | exact HB.out)⟩⟩
                · rw [if_neg c29] at H
                  have c29b0 : decide (t147 ≤ t146) = false := decide_eq_false c29
                  clear c29
                  replace H := Option.bind_eq_some_iff.mp H
                  obtain ⟨t148, A360, H⟩ := H
                  replace H : ((names_Along.f kj4 l0 a1 (wrap64 (Int.tmod (IntKind.u64.wrap (a2)) (IntKind.u64.wrap ((l0.length : Int))))) (wrap64 ((wrap64 (-(wrap64 (1 + (wrap64 (Int.tmod (IntKind.u64.wrap (a3)) 500)))))) - 1))).bind fun t149 => (parterrelaw16_NamesRising.j1 kj4 l0 (wrap64 (1 + (wrap64 (Int.tmod (IntKind.u64.wrap (a3)) 500)))) (wrap64 (Int.tmod (IntKind.u64.wrap (a2)) (IntKind.u64.wrap ((l0.length : Int))))) (decide (t148 ≤ t149)))) = some r := H
                  have A36 := Aside0.mk A360
                  clear A360
                  replace H := Option.bind_eq_some_iff.mp H
                  obtain ⟨t149, A370, H⟩ := H
                  replace H : (parterrelaw16_NamesRising.j1 kj4 l0 (wrap64 (1 + (wrap64 (Int.tmod (IntKind.u64.wrap (a3)) 500)))) (wrap64 (Int.tmod (IntKind.u64.wrap (a2)) (IntKind.u64.wrap ((l0.length : Int))))) (decide (t148 ≤ t149))) = some r := H
                  have A37 := Aside0.mk A370
                  clear A370
                  have H' := Aside0.mk H
                  clear H
                  go_wp2_with (first | ((with_reducible refine gate_callee (f := 18) rfl ?_); refine goesL_ (some 35) rfl rfl Try.func18 (by kernel_rfl) rfl #[.slice A0 l0.length c0, .string a1, .int .i64 (wrap64 (1 + (wrap64 (Int.tmod (IntKind.u64.wrap (a3)) 500))))] rfl (by (try simp only [List.map_toArray, List.map_cons, List.map_nil]); first | done | rfl | (simp only [List.length_drop, List.length_take]; rfl)) ?_; (with_reducible refine (names_Nth.calls kj4 _ _ l0 a1 (wrap64 (1 + (wrap64 (Int.tmod (IntKind.u64.wrap (a3)) 500)))) t142 _ ?side1 ?side2 A15.out).mono ?_); (case side1 => repeat (first | exact (Kd.C_below HR0.out HB.out) | (with_reducible refine Kd.C_alloc ?_ _) | (with_reducible refine Kd.C_drewN ?_ _) | (with_reducible refine Kd.C_drew ?_))); (case side2 => exact HC0.out); rintro e w38 ⟨rfl, hb⟩; refine ⟨_, rfl, ?_⟩; have n0_ := Aside0.mk (below_step (by repeat (first | (with_reducible first | exact HB.out | apply below_alloc | apply pw_below_drewN | apply below_drew1) | exact HB.out)) hb); clear HB; have HB := n0_; clear n0_; (try clear hb); (try clear hb2); (try clear hk); (try clear hi)) | ((with_reducible refine gate_callee (f := 18) rfl ?_); refine goesL_ (some 40) rfl rfl Try.func18 (by kernel_rfl) rfl #[.slice A0 l0.length c0, .string a1, .int .i64 (wrap64 ((wrap64 (1 + (wrap64 (Int.tmod (IntKind.u64.wrap (a3)) 500)))) + 1))] rfl (by (try simp only [List.map_toArray, List.map_cons, List.map_nil]); first | done | rfl | (simp only [List.length_drop, List.length_take]; rfl)) ?_; (with_reducible refine (names_Nth.calls kj4 _ _ l0 a1 (wrap64 ((wrap64 (1 + (wrap64 (Int.tmod (IntKind.u64.wrap (a3)) 500)))) + 1)) t143 _ ?side1 ?side2 A16.out).mono ?_); (case side1 => repeat (first | exact (Kd.C_below HR0.out HB.out) | (with_reducible refine Kd.C_alloc ?_ _) | (with_reducible refine Kd.C_drewN ?_ _) | (with_reducible refine Kd.C_drew ?_))); (case side2 => exact HC0.out); rintro e w39 ⟨rfl, hb⟩; refine ⟨_, rfl, ?_⟩; have n0_ := Aside0.mk (below_step (by repeat (first | (with_reducible first | exact HB.out | apply below_alloc | apply pw_below_drewN | apply below_drew1) | exact HB.out)) hb); clear HB; have HB := n0_; clear n0_; (try clear hb); (try clear hb2); (try clear hk); (try clear hi)) | (go_at_call 18; (with_reducible refine (names_Nth.calls kj4 _ _ l0 a1 (wrap64 (-(wrap64 (1 + (wrap64 (Int.tmod (IntKind.u64.wrap (a3)) 500)))))) t144 _ ?side1 ?side2 A20.out).mono ?_); (case side1 => repeat (first | exact (Kd.C_below HR0.out HB.out) | (with_reducible refine Kd.C_alloc ?_ _) | (with_reducible refine Kd.C_drewN ?_ _) | (with_reducible refine Kd.C_drew ?_))); (case side2 => exact HC0.out); rintro e w40 ⟨rfl, hb⟩; have n0_ := Aside0.mk (below_step (by repeat (first | (with_reducible first | exact HB.out | apply below_alloc | apply pw_below_drewN | apply below_drew1) | exact HB.out)) hb); clear HB; have HB := n0_; clear n0_; (try clear hb); (try clear hb2); (try clear hk); (try clear hi)) | (go_at_call 18; (with_reducible refine (names_Nth.calls kj4 _ _ l0 a1 (wrap64 ((wrap64 (-(wrap64 (1 + (wrap64 (Int.tmod (IntKind.u64.wrap (a3)) 500)))))) - 1)) t145 _ ?side1 ?side2 A21.out).mono ?_); (case side1 => repeat (first | exact (Kd.C_below HR0.out HB.out) | (with_reducible refine Kd.C_alloc ?_ _) | (with_reducible refine Kd.C_drewN ?_ _) | (with_reducible refine Kd.C_drew ?_))); (case side2 => exact HC0.out); rintro e w41 ⟨rfl, hb⟩; have n0_ := Aside0.mk (below_step (by repeat (first | (with_reducible first | exact HB.out | apply below_alloc | apply pw_below_drewN | apply below_drew1) | exact HB.out)) hb); clear HB; have HB := n0_; clear n0_; (try clear hb); (try clear hb2); (try clear hk); (try clear hi)) | (go_at_call 16; (with_reducible refine (names_Along.calls kj4 _ _ l0 a1 (wrap64 (Int.tmod (IntKind.u64.wrap (a2)) (IntKind.u64.wrap ((l0.length : Int))))) (wrap64 (1 + (wrap64 (Int.tmod (IntKind.u64.wrap (a3)) 500)))) t146 _ ?side1 ?side2 A27.out).mono ?_); (case side1 => repeat (first | exact (Kd.C_below HR0.out HB.out) | (with_reducible refine Kd.C_alloc ?_ _) | (with_reducible refine Kd.C_drewN ?_ _) | (with_reducible refine Kd.C_drew ?_))); (case side2 => exact HC0.out); rintro e w42 ⟨rfl, hb⟩; have n0_ := Aside0.mk (below_step (by repeat (first | (with_reducible first | exact HB.out | apply below_alloc | apply pw_below_drewN | apply below_drew1) | exact HB.out)) hb); clear HB; have HB := n0_; clear n0_; (try clear hb); (try clear hb2); (try clear hk); (try clear hi)) | (go_at_call 16; (with_reducible refine (names_Along.calls kj4 _ _ l0 a1 (wrap64 (Int.tmod (IntKind.u64.wrap (a2)) (IntKind.u64.wrap ((l0.length : Int))))) (wrap64 ((wrap64 (1 + (wrap64 (Int.tmod (IntKind.u64.wrap (a3)) 500)))) + 1)) t147 _ ?side1 ?side2 A28.out).mono ?_); (case side1 => repeat (first | exact (Kd.C_below HR0.out HB.out) | (with_reducible refine Kd.C_alloc ?_ _) | (with_reducible refine Kd.C_drewN ?_ _) | (with_reducible refine Kd.C_drew ?_))); (case side2 => exact HC0.out); rintro e w43 ⟨rfl, hb⟩; have n0_ := Aside0.mk (below_step (by repeat (first | (with_reducible first | exact HB.out | apply below_alloc | apply pw_below_drewN | apply below_drew1) | exact HB.out)) hb); clear HB; have HB := n0_; clear n0_; (try clear hb); (try clear hb2); (try clear hk); (try clear hi)) | (go_at_call 16; (with_reducible refine (names_Along.calls kj4 _ _ l0 a1 (wrap64 (Int.tmod (IntKind.u64.wrap (a2)) (IntKind.u64.wrap ((l0.length : Int))))) (wrap64 (-(wrap64 (1 + (wrap64 (Int.tmod (IntKind.u64.wrap (a3)) 500)))))) t148 _ ?side1 ?side2 A36.out).mono ?_); (case side1 => repeat (first | exact (Kd.C_below HR0.out HB.out) | (with_reducible refine Kd.C_alloc ?_ _) | (with_reducible refine Kd.C_drewN ?_ _) | (with_reducible refine Kd.C_drew ?_))); (case side2 => exact HC0.out); rintro e w44 ⟨rfl, hb⟩; have n0_ := Aside0.mk (below_step (by repeat (first | (with_reducible first | exact HB.out | apply below_alloc | apply pw_below_drewN | apply below_drew1) | exact HB.out)) hb); clear HB; have HB := n0_; clear n0_; (try clear hb); (try clear hb2); (try clear hk); (try clear hi)) | (go_at_call 16; (with_reducible refine (names_Along.calls kj4 _ _ l0 a1 (wrap64 (Int.tmod (IntKind.u64.wrap (a2)) (IntKind.u64.wrap ((l0.length : Int))))) (wrap64 ((wrap64 (-(wrap64 (1 + (wrap64 (Int.tmod (IntKind.u64.wrap (a3)) 500)))))) - 1)) t149 _ ?side1 ?side2 A37.out).mono ?_); (case side1 => repeat (first | exact (Kd.C_below HR0.out HB.out) | (with_reducible refine Kd.C_alloc ?_ _) | (with_reducible refine Kd.C_drewN ?_ _) | (with_reducible refine Kd.C_drew ?_))); (case side2 => exact HC0.out); rintro e w45 ⟨rfl, hb⟩; have n0_ := Aside0.mk (below_step (by repeat (first | (with_reducible first | exact HB.out | apply below_alloc | apply pw_below_drewN | apply below_drew1) | exact HB.out)) hb); clear HB; have HB := n0_; clear n0_; (try clear hb); (try clear hb2); (try clear hk); (try clear hi)))
                  go_meet
                  case rel => exact ⟨_, (decide (t148 ≤ t149)), (by first | rfl | (simp; done) | (simp [*]; done)), H', ⟨by have := HJ4.out; first | omega | exact Nat.le_refl _⟩, ⟨by repeat (first | (with_reducible first | exact HB.out | apply below_alloc | apply pw_below_drewN | apply below_drew1) | exact HB.out)⟩⟩
          case rest =>
            clear HC14
            try clear c1
            try clear c2
            try clear p2
            try clear c4
            try clear p6
            try clear c7
            try clear c10
            try clear c13
            try clear c13b0
            try clear c13b1
            try clear c14
            try clear c15
            try clear c17
            try clear c17b0
            try clear c18
            try clear c22
            try clear c22b0
            try clear c29
            try clear c29b0
            try clear p2
            try clear p6
            obtain ⟨kq, x85_13, rfl, HA, HJ13, HB⟩ := hcut
            cases kq with
            | zero => exact absurd HA.out (by simp [parterrelaw16_NamesRising.j1])
            | succ kj13 =>
              have H := HA.out
              clear HA
              simp only [parterrelaw16_NamesRising.j1] at H
              by_cases c46 : x85_13 = true
              · subst c46
                have H1 : (some false) = some r := by rw [if_pos rfl] at H; exact H
                clear H
                have H := H1
                clear H1
                obtain rfl := Option.some.inj H
                go_wp2
                go_ret
                exact ⟨by first | rfl | (simp [errW_none, errW_some] <;> rfl) | (simp [*, errW_none, errW_some] <;> rfl), by repeat (first | (with_reducible first | exact HB.out | apply below_alloc | apply pw_below_drewN | apply below_drew1) | exact HB.out)⟩
              · replace c46 := Bool.eq_false_iff.mpr c46
                subst c46
                have H1 : ((names_Nth.f kj13 l0 (⟨#[]⟩ : ByteArray) (wrap64 (1 + (wrap64 (Int.tmod (IntKind.u64.wrap (a3)) 500))))).bind fun t150 => (if t150 = (wrap64 ((wrap64 (1 + (wrap64 (Int.tmod (IntKind.u64.wrap (a3)) 500)))) - 1)) then ((names_Nth.f kj13 l0 (⟨#[]⟩ : ByteArray) (wrap64 (-(wrap64 (1 + (wrap64 (Int.tmod (IntKind.u64.wrap (a3)) 500))))))).bind fun t151 => (if t151 = (wrap64 ((l0.length : Int) - (wrap64 (1 + (wrap64 (Int.tmod (IntKind.u64.wrap (a3)) 500)))))) then ((names_Along.f kj13 l0 (⟨#[]⟩ : ByteArray) (wrap64 (Int.tmod (IntKind.u64.wrap (a2)) (IntKind.u64.wrap ((l0.length : Int))))) (wrap64 (1 + (wrap64 (Int.tmod (IntKind.u64.wrap (a3)) 500))))).bind fun t152 => (if t152 = (wrap64 ((wrap64 (Int.tmod (IntKind.u64.wrap (a2)) (IntKind.u64.wrap ((l0.length : Int))))) + (wrap64 (1 + (wrap64 (Int.tmod (IntKind.u64.wrap (a3)) 500)))))) then ((names_Along.f kj13 l0 (⟨#[]⟩ : ByteArray) (wrap64 (Int.tmod (IntKind.u64.wrap (a2)) (IntKind.u64.wrap ((l0.length : Int))))) (wrap64 (-(wrap64 (1 + (wrap64 (Int.tmod (IntKind.u64.wrap (a3)) 500))))))).bind fun t153 => (if t153 = (wrap64 ((wrap64 (Int.tmod (IntKind.u64.wrap (a2)) (IntKind.u64.wrap ((l0.length : Int))))) - (wrap64 (1 + (wrap64 (Int.tmod (IntKind.u64.wrap (a3)) 500)))))) then ((parterrelaw16_lives.f kj13).bind fun t154 => (some t154)) else (some false))) else (some false))) else (some false))) else (some false))) = some r := by rw [if_neg (show ¬ (false = true) by decide)] at H; exact H
                clear H
                have H := H1
                clear H1
                replace H := Option.bind_eq_some_iff.mp H
                obtain ⟨t150, A470, H⟩ := H
                replace H : (if t150 = (wrap64 ((wrap64 (1 + (wrap64 (Int.tmod (IntKind.u64.wrap (a3)) 500)))) - 1)) then ((names_Nth.f kj13 l0 (⟨#[]⟩ : ByteArray) (wrap64 (-(wrap64 (1 + (wrap64 (Int.tmod (IntKind.u64.wrap (a3)) 500))))))).bind fun t151 => (if t151 = (wrap64 ((l0.length : Int) - (wrap64 (1 + (wrap64 (Int.tmod (IntKind.u64.wrap (a3)) 500)))))) then ((names_Along.f kj13 l0 (⟨#[]⟩ : ByteArray) (wrap64 (Int.tmod (IntKind.u64.wrap (a2)) (IntKind.u64.wrap ((l0.length : Int))))) (wrap64 (1 + (wrap64 (Int.tmod (IntKind.u64.wrap (a3)) 500))))).bind fun t152 => (if t152 = (wrap64 ((wrap64 (Int.tmod (IntKind.u64.wrap (a2)) (IntKind.u64.wrap ((l0.length : Int))))) + (wrap64 (1 + (wrap64 (Int.tmod (IntKind.u64.wrap (a3)) 500)))))) then ((names_Along.f kj13 l0 (⟨#[]⟩ : ByteArray) (wrap64 (Int.tmod (IntKind.u64.wrap (a2)) (IntKind.u64.wrap ((l0.length : Int))))) (wrap64 (-(wrap64 (1 + (wrap64 (Int.tmod (IntKind.u64.wrap (a3)) 500))))))).bind fun t153 => (if t153 = (wrap64 ((wrap64 (Int.tmod (IntKind.u64.wrap (a2)) (IntKind.u64.wrap ((l0.length : Int))))) - (wrap64 (1 + (wrap64 (Int.tmod (IntKind.u64.wrap (a3)) 500)))))) then ((parterrelaw16_lives.f kj13).bind fun t154 => (some t154)) else (some false))) else (some false))) else (some false))) else (some false)) = some r := H
                have A47 := Aside0.mk A470
                clear A470
                by_cases c48 : t150 = (wrap64 ((wrap64 (1 + (wrap64 (Int.tmod (IntKind.u64.wrap (a3)) 500)))) - 1))
                · rw [if_pos c48] at H
                  have c48b0 : (t150 == (wrap64 ((wrap64 (1 + (wrap64 (Int.tmod (IntKind.u64.wrap (a3)) 500)))) - 1))) = true := beq_iff_eq.mpr c48
                  have c48b1 : (t150 != (wrap64 ((wrap64 (1 + (wrap64 (Int.tmod (IntKind.u64.wrap (a3)) 500)))) - 1))) = false := bne_eq_false_iff_eq.mpr c48
                  clear c48
                  replace H := Option.bind_eq_some_iff.mp H
                  obtain ⟨t151, A490, H⟩ := H
                  replace H : (if t151 = (wrap64 ((l0.length : Int) - (wrap64 (1 + (wrap64 (Int.tmod (IntKind.u64.wrap (a3)) 500)))))) then ((names_Along.f kj13 l0 (⟨#[]⟩ : ByteArray) (wrap64 (Int.tmod (IntKind.u64.wrap (a2)) (IntKind.u64.wrap ((l0.length : Int))))) (wrap64 (1 + (wrap64 (Int.tmod (IntKind.u64.wrap (a3)) 500))))).bind fun t152 => (if t152 = (wrap64 ((wrap64 (Int.tmod (IntKind.u64.wrap (a2)) (IntKind.u64.wrap ((l0.length : Int))))) + (wrap64 (1 + (wrap64 (Int.tmod (IntKind.u64.wrap (a3)) 500)))))) then ((names_Along.f kj13 l0 (⟨#[]⟩ : ByteArray) (wrap64 (Int.tmod (IntKind.u64.wrap (a2)) (IntKind.u64.wrap ((l0.length : Int))))) (wrap64 (-(wrap64 (1 + (wrap64 (Int.tmod (IntKind.u64.wrap (a3)) 500))))))).bind fun t153 => (if t153 = (wrap64 ((wrap64 (Int.tmod (IntKind.u64.wrap (a2)) (IntKind.u64.wrap ((l0.length : Int))))) - (wrap64 (1 + (wrap64 (Int.tmod (IntKind.u64.wrap (a3)) 500)))))) then ((parterrelaw16_lives.f kj13).bind fun t154 => (some t154)) else (some false))) else (some false))) else (some false)) = some r := H
                  have A49 := Aside0.mk A490
                  clear A490
                  by_cases c50 : t151 = (wrap64 ((l0.length : Int) - (wrap64 (1 + (wrap64 (Int.tmod (IntKind.u64.wrap (a3)) 500))))))
                  · rw [if_pos c50] at H
                    have c50b0 : (t151 == (wrap64 ((l0.length : Int) - (wrap64 (1 + (wrap64 (Int.tmod (IntKind.u64.wrap (a3)) 500))))))) = true := beq_iff_eq.mpr c50
                    have c50b1 : (t151 != (wrap64 ((l0.length : Int) - (wrap64 (1 + (wrap64 (Int.tmod (IntKind.u64.wrap (a3)) 500))))))) = false := bne_eq_false_iff_eq.mpr c50
                    clear c50
                    replace H := Option.bind_eq_some_iff.mp H
                    obtain ⟨t152, A510, H⟩ := H
                    replace H : (if t152 = (wrap64 ((wrap64 (Int.tmod (IntKind.u64.wrap (a2)) (IntKind.u64.wrap ((l0.length : Int))))) + (wrap64 (1 + (wrap64 (Int.tmod (IntKind.u64.wrap (a3)) 500)))))) then ((names_Along.f kj13 l0 (⟨#[]⟩ : ByteArray) (wrap64 (Int.tmod (IntKind.u64.wrap (a2)) (IntKind.u64.wrap ((l0.length : Int))))) (wrap64 (-(wrap64 (1 + (wrap64 (Int.tmod (IntKind.u64.wrap (a3)) 500))))))).bind fun t153 => (if t153 = (wrap64 ((wrap64 (Int.tmod (IntKind.u64.wrap (a2)) (IntKind.u64.wrap ((l0.length : Int))))) - (wrap64 (1 + (wrap64 (Int.tmod (IntKind.u64.wrap (a3)) 500)))))) then ((parterrelaw16_lives.f kj13).bind fun t154 => (some t154)) else (some false))) else (some false)) = some r := H
                    have A51 := Aside0.mk A510
                    clear A510
                    by_cases c52 : t152 = (wrap64 ((wrap64 (Int.tmod (IntKind.u64.wrap (a2)) (IntKind.u64.wrap ((l0.length : Int))))) + (wrap64 (1 + (wrap64 (Int.tmod (IntKind.u64.wrap (a3)) 500))))))
                    · rw [if_pos c52] at H
                      have c52b0 : (t152 == (wrap64 ((wrap64 (Int.tmod (IntKind.u64.wrap (a2)) (IntKind.u64.wrap ((l0.length : Int))))) + (wrap64 (1 + (wrap64 (Int.tmod (IntKind.u64.wrap (a3)) 500))))))) = true := beq_iff_eq.mpr c52
                      have c52b1 : (t152 != (wrap64 ((wrap64 (Int.tmod (IntKind.u64.wrap (a2)) (IntKind.u64.wrap ((l0.length : Int))))) + (wrap64 (1 + (wrap64 (Int.tmod (IntKind.u64.wrap (a3)) 500))))))) = false := bne_eq_false_iff_eq.mpr c52
                      clear c52
                      replace H := Option.bind_eq_some_iff.mp H
                      obtain ⟨t153, A530, H⟩ := H
                      replace H : (if t153 = (wrap64 ((wrap64 (Int.tmod (IntKind.u64.wrap (a2)) (IntKind.u64.wrap ((l0.length : Int))))) - (wrap64 (1 + (wrap64 (Int.tmod (IntKind.u64.wrap (a3)) 500)))))) then ((parterrelaw16_lives.f kj13).bind fun t154 => (some t154)) else (some false)) = some r := H
                      have A53 := Aside0.mk A530
                      clear A530
                      by_cases c54 : t153 = (wrap64 ((wrap64 (Int.tmod (IntKind.u64.wrap (a2)) (IntKind.u64.wrap ((l0.length : Int))))) - (wrap64 (1 + (wrap64 (Int.tmod (IntKind.u64.wrap (a3)) 500))))))
                      · rw [if_pos c54] at H
                        have c54b0 : (t153 == (wrap64 ((wrap64 (Int.tmod (IntKind.u64.wrap (a2)) (IntKind.u64.wrap ((l0.length : Int))))) - (wrap64 (1 + (wrap64 (Int.tmod (IntKind.u64.wrap (a3)) 500))))))) = true := beq_iff_eq.mpr c54
                        have c54b1 : (t153 != (wrap64 ((wrap64 (Int.tmod (IntKind.u64.wrap (a2)) (IntKind.u64.wrap ((l0.length : Int))))) - (wrap64 (1 + (wrap64 (Int.tmod (IntKind.u64.wrap (a3)) 500))))))) = false := bne_eq_false_iff_eq.mpr c54
                        clear c54
                        replace H := Option.bind_eq_some_iff.mp H
                        obtain ⟨t154, A550, H⟩ := H
                        replace H : (some t154) = some r := H
                        have A55 := Aside0.mk A550
                        clear A550
                        obtain rfl := Option.some.inj H
                        go_wp2_with (first | ((with_reducible refine gate_callee (f := 18) rfl ?_); refine goesL_ (some 88) rfl rfl Try.func18 (by kernel_rfl) rfl #[.slice A0 l0.length c0, .string (⟨#[]⟩ : ByteArray), .int .i64 (wrap64 (1 + (wrap64 (Int.tmod (IntKind.u64.wrap (a3)) 500))))] rfl (by (try simp only [List.map_toArray, List.map_cons, List.map_nil]); first | done | rfl | (simp only [List.length_drop, List.length_take]; rfl)) ?_; (with_reducible refine (names_Nth.calls kj13 _ _ l0 (⟨#[]⟩ : ByteArray) (wrap64 (1 + (wrap64 (Int.tmod (IntKind.u64.wrap (a3)) 500)))) t150 _ ?side1 ?side2 A47.out).mono ?_); (case side1 => repeat (first | exact (Kd.C_below HR0.out HB.out) | (with_reducible refine Kd.C_alloc ?_ _) | (with_reducible refine Kd.C_drewN ?_ _) | (with_reducible refine Kd.C_drew ?_))); (case side2 => exact HC0.out); rintro e w56 ⟨rfl, hb⟩; refine ⟨_, rfl, ?_⟩; have n0_ := Aside0.mk (below_step (by repeat (first | (with_reducible first | exact HB.out | apply below_alloc | apply pw_below_drewN | apply below_drew1) | exact HB.out)) hb); clear HB; have HB := n0_; clear n0_; (try clear hb); (try clear hb2); (try clear hk); (try clear hi)) | (go_at_call 18; (with_reducible refine (names_Nth.calls kj13 _ _ l0 (⟨#[]⟩ : ByteArray) (wrap64 (-(wrap64 (1 + (wrap64 (Int.tmod (IntKind.u64.wrap (a3)) 500)))))) t151 _ ?side1 ?side2 A49.out).mono ?_); (case side1 => repeat (first | exact (Kd.C_below HR0.out HB.out) | (with_reducible refine Kd.C_alloc ?_ _) | (with_reducible refine Kd.C_drewN ?_ _) | (with_reducible refine Kd.C_drew ?_))); (case side2 => exact HC0.out); rintro e w57 ⟨rfl, hb⟩; have n0_ := Aside0.mk (below_step (by repeat (first | (with_reducible first | exact HB.out | apply below_alloc | apply pw_below_drewN | apply below_drew1) | exact HB.out)) hb); clear HB; have HB := n0_; clear n0_; (try clear hb); (try clear hb2); (try clear hk); (try clear hi)) | (go_at_call 16; (with_reducible refine (names_Along.calls kj13 _ _ l0 (⟨#[]⟩ : ByteArray) (wrap64 (Int.tmod (IntKind.u64.wrap (a2)) (IntKind.u64.wrap ((l0.length : Int))))) (wrap64 (1 + (wrap64 (Int.tmod (IntKind.u64.wrap (a3)) 500)))) t152 _ ?side1 ?side2 A51.out).mono ?_); (case side1 => repeat (first | exact (Kd.C_below HR0.out HB.out) | (with_reducible refine Kd.C_alloc ?_ _) | (with_reducible refine Kd.C_drewN ?_ _) | (with_reducible refine Kd.C_drew ?_))); (case side2 => exact HC0.out); rintro e w58 ⟨rfl, hb⟩; have n0_ := Aside0.mk (below_step (by repeat (first | (with_reducible first | exact HB.out | apply below_alloc | apply pw_below_drewN | apply below_drew1) | exact HB.out)) hb); clear HB; have HB := n0_; clear n0_; (try clear hb); (try clear hb2); (try clear hk); (try clear hi)) | (go_at_call 16; (with_reducible refine (names_Along.calls kj13 _ _ l0 (⟨#[]⟩ : ByteArray) (wrap64 (Int.tmod (IntKind.u64.wrap (a2)) (IntKind.u64.wrap ((l0.length : Int))))) (wrap64 (-(wrap64 (1 + (wrap64 (Int.tmod (IntKind.u64.wrap (a3)) 500)))))) t153 _ ?side1 ?side2 A53.out).mono ?_); (case side1 => repeat (first | exact (Kd.C_below HR0.out HB.out) | (with_reducible refine Kd.C_alloc ?_ _) | (with_reducible refine Kd.C_drewN ?_ _) | (with_reducible refine Kd.C_drew ?_))); (case side2 => exact HC0.out); rintro e w59 ⟨rfl, hb⟩; have n0_ := Aside0.mk (below_step (by repeat (first | (with_reducible first | exact HB.out | apply below_alloc | apply pw_below_drewN | apply below_drew1) | exact HB.out)) hb); clear HB; have HB := n0_; clear n0_; (try clear hb); (try clear hb2); (try clear hk); (try clear hi)) | (go_at_call 15; (with_reducible refine (parterrelaw16_lives.calls kj13  t154 _ A55.out).mono ?_); rintro e w60 ⟨rfl, hb⟩; have n0_ := Aside0.mk (below_step (by repeat (first | (with_reducible first | exact HB.out | apply below_alloc | apply pw_below_drewN | apply below_drew1) | exact HB.out)) hb); clear HB; have HB := n0_; clear n0_; (try clear hb); (try clear hb2); (try clear hk); (try clear hi)))
                        go_ret
                        exact ⟨by first | rfl | (simp [errW_none, errW_some] <;> rfl) | (simp [*, errW_none, errW_some] <;> rfl), by repeat (first | (with_reducible first | exact HB.out | apply below_alloc | apply pw_below_drewN | apply below_drew1) | exact HB.out)⟩
                      · rw [if_neg c54] at H
                        have c54b0 : (t153 == (wrap64 ((wrap64 (Int.tmod (IntKind.u64.wrap (a2)) (IntKind.u64.wrap ((l0.length : Int))))) - (wrap64 (1 + (wrap64 (Int.tmod (IntKind.u64.wrap (a3)) 500))))))) = false := beq_eq_false_iff_ne.mpr c54
                        have c54b1 : (t153 != (wrap64 ((wrap64 (Int.tmod (IntKind.u64.wrap (a2)) (IntKind.u64.wrap ((l0.length : Int))))) - (wrap64 (1 + (wrap64 (Int.tmod (IntKind.u64.wrap (a3)) 500))))))) = true := bne_iff_ne.mpr c54
                        obtain rfl := Option.some.inj H
                        go_wp2_with (first | ((with_reducible refine gate_callee (f := 18) rfl ?_); refine goesL_ (some 88) rfl rfl Try.func18 (by kernel_rfl) rfl #[.slice A0 l0.length c0, .string (⟨#[]⟩ : ByteArray), .int .i64 (wrap64 (1 + (wrap64 (Int.tmod (IntKind.u64.wrap (a3)) 500))))] rfl (by (try simp only [List.map_toArray, List.map_cons, List.map_nil]); first | done | rfl | (simp only [List.length_drop, List.length_take]; rfl)) ?_; (with_reducible refine (names_Nth.calls kj13 _ _ l0 (⟨#[]⟩ : ByteArray) (wrap64 (1 + (wrap64 (Int.tmod (IntKind.u64.wrap (a3)) 500)))) t150 _ ?side1 ?side2 A47.out).mono ?_); (case side1 => repeat (first | exact (Kd.C_below HR0.out HB.out) | (with_reducible refine Kd.C_alloc ?_ _) | (with_reducible refine Kd.C_drewN ?_ _) | (with_reducible refine Kd.C_drew ?_))); (case side2 => exact HC0.out); rintro e w61 ⟨rfl, hb⟩; refine ⟨_, rfl, ?_⟩; have n0_ := Aside0.mk (below_step (by repeat (first | (with_reducible first | exact HB.out | apply below_alloc | apply pw_below_drewN | apply below_drew1) | exact HB.out)) hb); clear HB; have HB := n0_; clear n0_; (try clear hb); (try clear hb2); (try clear hk); (try clear hi)) | (go_at_call 18; (with_reducible refine (names_Nth.calls kj13 _ _ l0 (⟨#[]⟩ : ByteArray) (wrap64 (-(wrap64 (1 + (wrap64 (Int.tmod (IntKind.u64.wrap (a3)) 500)))))) t151 _ ?side1 ?side2 A49.out).mono ?_); (case side1 => repeat (first | exact (Kd.C_below HR0.out HB.out) | (with_reducible refine Kd.C_alloc ?_ _) | (with_reducible refine Kd.C_drewN ?_ _) | (with_reducible refine Kd.C_drew ?_))); (case side2 => exact HC0.out); rintro e w62 ⟨rfl, hb⟩; have n0_ := Aside0.mk (below_step (by repeat (first | (with_reducible first | exact HB.out | apply below_alloc | apply pw_below_drewN | apply below_drew1) | exact HB.out)) hb); clear HB; have HB := n0_; clear n0_; (try clear hb); (try clear hb2); (try clear hk); (try clear hi)) | (go_at_call 16; (with_reducible refine (names_Along.calls kj13 _ _ l0 (⟨#[]⟩ : ByteArray) (wrap64 (Int.tmod (IntKind.u64.wrap (a2)) (IntKind.u64.wrap ((l0.length : Int))))) (wrap64 (1 + (wrap64 (Int.tmod (IntKind.u64.wrap (a3)) 500)))) t152 _ ?side1 ?side2 A51.out).mono ?_); (case side1 => repeat (first | exact (Kd.C_below HR0.out HB.out) | (with_reducible refine Kd.C_alloc ?_ _) | (with_reducible refine Kd.C_drewN ?_ _) | (with_reducible refine Kd.C_drew ?_))); (case side2 => exact HC0.out); rintro e w63 ⟨rfl, hb⟩; have n0_ := Aside0.mk (below_step (by repeat (first | (with_reducible first | exact HB.out | apply below_alloc | apply pw_below_drewN | apply below_drew1) | exact HB.out)) hb); clear HB; have HB := n0_; clear n0_; (try clear hb); (try clear hb2); (try clear hk); (try clear hi)) | (go_at_call 16; (with_reducible refine (names_Along.calls kj13 _ _ l0 (⟨#[]⟩ : ByteArray) (wrap64 (Int.tmod (IntKind.u64.wrap (a2)) (IntKind.u64.wrap ((l0.length : Int))))) (wrap64 (-(wrap64 (1 + (wrap64 (Int.tmod (IntKind.u64.wrap (a3)) 500)))))) t153 _ ?side1 ?side2 A53.out).mono ?_); (case side1 => repeat (first | exact (Kd.C_below HR0.out HB.out) | (with_reducible refine Kd.C_alloc ?_ _) | (with_reducible refine Kd.C_drewN ?_ _) | (with_reducible refine Kd.C_drew ?_))); (case side2 => exact HC0.out); rintro e w64 ⟨rfl, hb⟩; have n0_ := Aside0.mk (below_step (by repeat (first | (with_reducible first | exact HB.out | apply below_alloc | apply pw_below_drewN | apply below_drew1) | exact HB.out)) hb); clear HB; have HB := n0_; clear n0_; (try clear hb); (try clear hb2); (try clear hk); (try clear hi)))
                        go_ret
                        exact ⟨by first | rfl | (simp [errW_none, errW_some] <;> rfl) | (simp [*, errW_none, errW_some] <;> rfl), by repeat (first | (with_reducible first | exact HB.out | apply below_alloc | apply pw_below_drewN | apply below_drew1) | exact HB.out)⟩
                    · rw [if_neg c52] at H
                      have c52b0 : (t152 == (wrap64 ((wrap64 (Int.tmod (IntKind.u64.wrap (a2)) (IntKind.u64.wrap ((l0.length : Int))))) + (wrap64 (1 + (wrap64 (Int.tmod (IntKind.u64.wrap (a3)) 500))))))) = false := beq_eq_false_iff_ne.mpr c52
                      have c52b1 : (t152 != (wrap64 ((wrap64 (Int.tmod (IntKind.u64.wrap (a2)) (IntKind.u64.wrap ((l0.length : Int))))) + (wrap64 (1 + (wrap64 (Int.tmod (IntKind.u64.wrap (a3)) 500))))))) = true := bne_iff_ne.mpr c52
                      obtain rfl := Option.some.inj H
                      go_wp2_with (first | ((with_reducible refine gate_callee (f := 18) rfl ?_); refine goesL_ (some 88) rfl rfl Try.func18 (by kernel_rfl) rfl #[.slice A0 l0.length c0, .string (⟨#[]⟩ : ByteArray), .int .i64 (wrap64 (1 + (wrap64 (Int.tmod (IntKind.u64.wrap (a3)) 500))))] rfl (by (try simp only [List.map_toArray, List.map_cons, List.map_nil]); first | done | rfl | (simp only [List.length_drop, List.length_take]; rfl)) ?_; (with_reducible refine (names_Nth.calls kj13 _ _ l0 (⟨#[]⟩ : ByteArray) (wrap64 (1 + (wrap64 (Int.tmod (IntKind.u64.wrap (a3)) 500)))) t150 _ ?side1 ?side2 A47.out).mono ?_); (case side1 => repeat (first | exact (Kd.C_below HR0.out HB.out) | (with_reducible refine Kd.C_alloc ?_ _) | (with_reducible refine Kd.C_drewN ?_ _) | (with_reducible refine Kd.C_drew ?_))); (case side2 => exact HC0.out); rintro e w65 ⟨rfl, hb⟩; refine ⟨_, rfl, ?_⟩; have n0_ := Aside0.mk (below_step (by repeat (first | (with_reducible first | exact HB.out | apply below_alloc | apply pw_below_drewN | apply below_drew1) | exact HB.out)) hb); clear HB; have HB := n0_; clear n0_; (try clear hb); (try clear hb2); (try clear hk); (try clear hi)) | (go_at_call 18; (with_reducible refine (names_Nth.calls kj13 _ _ l0 (⟨#[]⟩ : ByteArray) (wrap64 (-(wrap64 (1 + (wrap64 (Int.tmod (IntKind.u64.wrap (a3)) 500)))))) t151 _ ?side1 ?side2 A49.out).mono ?_); (case side1 => repeat (first | exact (Kd.C_below HR0.out HB.out) | (with_reducible refine Kd.C_alloc ?_ _) | (with_reducible refine Kd.C_drewN ?_ _) | (with_reducible refine Kd.C_drew ?_))); (case side2 => exact HC0.out); rintro e w66 ⟨rfl, hb⟩; have n0_ := Aside0.mk (below_step (by repeat (first | (with_reducible first | exact HB.out | apply below_alloc | apply pw_below_drewN | apply below_drew1) | exact HB.out)) hb); clear HB; have HB := n0_; clear n0_; (try clear hb); (try clear hb2); (try clear hk); (try clear hi)) | (go_at_call 16; (with_reducible refine (names_Along.calls kj13 _ _ l0 (⟨#[]⟩ : ByteArray) (wrap64 (Int.tmod (IntKind.u64.wrap (a2)) (IntKind.u64.wrap ((l0.length : Int))))) (wrap64 (1 + (wrap64 (Int.tmod (IntKind.u64.wrap (a3)) 500)))) t152 _ ?side1 ?side2 A51.out).mono ?_); (case side1 => repeat (first | exact (Kd.C_below HR0.out HB.out) | (with_reducible refine Kd.C_alloc ?_ _) | (with_reducible refine Kd.C_drewN ?_ _) | (with_reducible refine Kd.C_drew ?_))); (case side2 => exact HC0.out); rintro e w67 ⟨rfl, hb⟩; have n0_ := Aside0.mk (below_step (by repeat (first | (with_reducible first | exact HB.out | apply below_alloc | apply pw_below_drewN | apply below_drew1) | exact HB.out)) hb); clear HB; have HB := n0_; clear n0_; (try clear hb); (try clear hb2); (try clear hk); (try clear hi)))
                      go_ret
                      exact ⟨by first | rfl | (simp [errW_none, errW_some] <;> rfl) | (simp [*, errW_none, errW_some] <;> rfl), by repeat (first | (with_reducible first | exact HB.out | apply below_alloc | apply pw_below_drewN | apply below_drew1) | exact HB.out)⟩
                  · rw [if_neg c50] at H
                    have c50b0 : (t151 == (wrap64 ((l0.length : Int) - (wrap64 (1 + (wrap64 (Int.tmod (IntKind.u64.wrap (a3)) 500))))))) = false := beq_eq_false_iff_ne.mpr c50
                    have c50b1 : (t151 != (wrap64 ((l0.length : Int) - (wrap64 (1 + (wrap64 (Int.tmod (IntKind.u64.wrap (a3)) 500))))))) = true := bne_iff_ne.mpr c50
                    obtain rfl := Option.some.inj H
                    go_wp2_with (first | ((with_reducible refine gate_callee (f := 18) rfl ?_); refine goesL_ (some 88) rfl rfl Try.func18 (by kernel_rfl) rfl #[.slice A0 l0.length c0, .string (⟨#[]⟩ : ByteArray), .int .i64 (wrap64 (1 + (wrap64 (Int.tmod (IntKind.u64.wrap (a3)) 500))))] rfl (by (try simp only [List.map_toArray, List.map_cons, List.map_nil]); first | done | rfl | (simp only [List.length_drop, List.length_take]; rfl)) ?_; (with_reducible refine (names_Nth.calls kj13 _ _ l0 (⟨#[]⟩ : ByteArray) (wrap64 (1 + (wrap64 (Int.tmod (IntKind.u64.wrap (a3)) 500)))) t150 _ ?side1 ?side2 A47.out).mono ?_); (case side1 => repeat (first | exact (Kd.C_below HR0.out HB.out) | (with_reducible refine Kd.C_alloc ?_ _) | (with_reducible refine Kd.C_drewN ?_ _) | (with_reducible refine Kd.C_drew ?_))); (case side2 => exact HC0.out); rintro e w68 ⟨rfl, hb⟩; refine ⟨_, rfl, ?_⟩; have n0_ := Aside0.mk (below_step (by repeat (first | (with_reducible first | exact HB.out | apply below_alloc | apply pw_below_drewN | apply below_drew1) | exact HB.out)) hb); clear HB; have HB := n0_; clear n0_; (try clear hb); (try clear hb2); (try clear hk); (try clear hi)) | (go_at_call 18; (with_reducible refine (names_Nth.calls kj13 _ _ l0 (⟨#[]⟩ : ByteArray) (wrap64 (-(wrap64 (1 + (wrap64 (Int.tmod (IntKind.u64.wrap (a3)) 500)))))) t151 _ ?side1 ?side2 A49.out).mono ?_); (case side1 => repeat (first | exact (Kd.C_below HR0.out HB.out) | (with_reducible refine Kd.C_alloc ?_ _) | (with_reducible refine Kd.C_drewN ?_ _) | (with_reducible refine Kd.C_drew ?_))); (case side2 => exact HC0.out); rintro e w69 ⟨rfl, hb⟩; have n0_ := Aside0.mk (below_step (by repeat (first | (with_reducible first | exact HB.out | apply below_alloc | apply pw_below_drewN | apply below_drew1) | exact HB.out)) hb); clear HB; have HB := n0_; clear n0_; (try clear hb); (try clear hb2); (try clear hk); (try clear hi)))
                    go_ret
                    exact ⟨by first | rfl | (simp [errW_none, errW_some] <;> rfl) | (simp [*, errW_none, errW_some] <;> rfl), by repeat (first | (with_reducible first | exact HB.out | apply below_alloc | apply pw_below_drewN | apply below_drew1) | exact HB.out)⟩
                · rw [if_neg c48] at H
                  have c48b0 : (t150 == (wrap64 ((wrap64 (1 + (wrap64 (Int.tmod (IntKind.u64.wrap (a3)) 500)))) - 1))) = false := beq_eq_false_iff_ne.mpr c48
                  have c48b1 : (t150 != (wrap64 ((wrap64 (1 + (wrap64 (Int.tmod (IntKind.u64.wrap (a3)) 500)))) - 1))) = true := bne_iff_ne.mpr c48
                  obtain rfl := Option.some.inj H
                  go_wp2_with (first | ((with_reducible refine gate_callee (f := 18) rfl ?_); refine goesL_ (some 88) rfl rfl Try.func18 (by kernel_rfl) rfl #[.slice A0 l0.length c0, .string (⟨#[]⟩ : ByteArray), .int .i64 (wrap64 (1 + (wrap64 (Int.tmod (IntKind.u64.wrap (a3)) 500))))] rfl (by (try simp only [List.map_toArray, List.map_cons, List.map_nil]); first | done | rfl | (simp only [List.length_drop, List.length_take]; rfl)) ?_; (with_reducible refine (names_Nth.calls kj13 _ _ l0 (⟨#[]⟩ : ByteArray) (wrap64 (1 + (wrap64 (Int.tmod (IntKind.u64.wrap (a3)) 500)))) t150 _ ?side1 ?side2 A47.out).mono ?_); (case side1 => repeat (first | exact (Kd.C_below HR0.out HB.out) | (with_reducible refine Kd.C_alloc ?_ _) | (with_reducible refine Kd.C_drewN ?_ _) | (with_reducible refine Kd.C_drew ?_))); (case side2 => exact HC0.out); rintro e w70 ⟨rfl, hb⟩; refine ⟨_, rfl, ?_⟩; have n0_ := Aside0.mk (below_step (by repeat (first | (with_reducible first | exact HB.out | apply below_alloc | apply pw_below_drewN | apply below_drew1) | exact HB.out)) hb); clear HB; have HB := n0_; clear n0_; (try clear hb); (try clear hb2); (try clear hk); (try clear hi)))
                  go_ret
                  exact ⟨by first | rfl | (simp [errW_none, errW_some] <;> rfl) | (simp [*, errW_none, errW_some] <;> rfl), by repeat (first | (with_reducible first | exact HB.out | apply below_alloc | apply pw_below_drewN | apply below_drew1) | exact HB.out)⟩

/-- THE ONE PURE STATEMENT of parterrelaw16_NamesRising. -/
def parterrelaw16_NamesRising.Pure : Prop := ∀ (l0 : List (List ByteArray)) (a1 : ByteArray) (a2 : Int) (a3 : Int), gSl 24 (gSl 16 gStr) l0 → gStr a1 → gInt .i64 a2 → gInt .i64 a3 → ∃ k, parterrelaw16_NamesRising.f k l0 a1 a2 a3 = some true

end Go.Proofs.Ytbjjmilbilapnaa.PNm
