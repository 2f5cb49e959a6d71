-- Written by a program of this session (wip/p2) out of the translation; Lean checks it.
import Derived.Test.YtfccpnpocfjbcaaDoorPNtx0
import Derived.Test.YtfccpnpocfjbcaaDoorPNtx3
import Derived.Test.YtfccpnpocfjbcaaDoorPNtx6
import Derived.Test.YtfccpnpocfjbcaaDoorPNtx7
import Derived.Test.YtfccpnpocfjbcaaDoorPNtx8
import Derived.Test.YtfccpnpocfjbcaaDoorPNtx9
namespace Go.Proofs.YtfccpnpocfjbcaaDoor.PNt
open Go.RowKit Go.Proofs.YtfccpnpocfjbcaaDoorW.PrintWords Go.Proofs.YtfccpnpocfjbcaaDoorW.PrintLast Go.Proofs.YtfccpnpocfjbcaaDoorW.PrintMore
attribute [local go_sem] max2_int min2_int max_two min_two max_three min_three max_four min_four   -- for this text's walks alone
set_option linter.unusedVariables false
set_option linter.unusedSimpArgs false
open Go.Proofs.YtfccpnpocfjbcaaDoor.Opn Go.Proofs.YtfccpnpocfjbcaaDoor.Giv

/-! ### parterrelaw02_NumberBack: function 6 -/
def parterrelaw02_NumberBack.f (k : Nat) (a0 : Int) (a1 : Int) : Option (Bool) := if (wrap64 (Int.tmod (IntKind.u64.wrap (a1)) 3)) = 0 then ((number_Text.f k a0 1).bind fun t148 => ((fixed_Is.f a0).bind fun t149 => (if t149 = true then ((number_Value.f k t148 1).bind fun bt150 => (if bt150.2 = 0 then (if bt150.1 = a0 then ((number_Scan.f t148).bind fun t152 => (if t152 = (t148.size : Int) then ((parterrelaw02_lives.f k).bind fun t153 => (some t153)) else (some false))) else (some false)) else (some false))) else (if t148.toList = ([] : List UInt8) then ((parterrelaw02_lives.f k).bind fun t154 => (some t154)) else (some false))))) else (if (wrap64 (Int.tmod (IntKind.u64.wrap (a1)) 3)) = 1 then ((number_Text.f k a0 64).bind fun t155 => ((fixed_Is.f a0).bind fun t156 => (if t156 = true then ((number_Value.f k t155 64).bind fun bt157 => (if bt157.2 = 0 then (if bt157.1 = a0 then ((number_Scan.f t155).bind fun t159 => (if t159 = (t155.size : Int) then ((parterrelaw02_lives.f k).bind fun t160 => (some t160)) else (some false))) else (some false)) else (some false))) else (if t155.toList = ([] : List UInt8) then ((parterrelaw02_lives.f k).bind fun t161 => (some t161)) else (some false))))) else (if (wrap64 (Int.tmod (IntKind.u64.wrap (a1)) 3)) = 2 then ((number_Text.f k a0 1000).bind fun t162 => ((fixed_Is.f a0).bind fun t163 => (if t163 = true then ((number_Value.f k t162 1000).bind fun bt164 => (if bt164.2 = 0 then (if bt164.1 = a0 then ((number_Scan.f t162).bind fun t166 => (if t166 = (t162.size : Int) then ((parterrelaw02_lives.f k).bind fun t167 => (some t167)) else (some false))) else (some false)) else (some false))) else (if t162.toList = ([] : List UInt8) then ((parterrelaw02_lives.f k).bind fun t168 => (some t168)) else (some false))))) else (none)))
theorem parterrelaw02_NumberBack.mono : ∀ a0 a1 k, LeO (parterrelaw02_NumberBack.f k a0 a1) (parterrelaw02_NumberBack.f (k + 1) a0 a1) := by
  intro a0 a1 k
  unfold parterrelaw02_NumberBack.f
  repeat' first
      | (with_reducible exact number_Text.mono _ _ _)
      | (with_reducible exact number_Value.mono _ _ _)
      | (with_reducible exact parterrelaw02_lives.mono _)
      | (with_reducible exact LeO.refl _)
      | (with_reducible exact LeO.none _)
      | (with_reducible refine LeO.ite ?_ ?_)
      | (with_reducible refine LeO.bind ?_ (fun _ => ?_))
      | exact number_Text.mono _ _ _
      | exact number_Value.mono _ _ _
      | exact parterrelaw02_lives.mono _
      | exact LeO.none _
      | refine LeO.ite ?_ ?_
      | refine LeO.bind ?_ (fun _ => ?_)
set_option maxHeartbeats 8000000 in
set_option maxRecDepth 100000 in
theorem parterrelaw02_NumberBack.calls (k : Nat) (a0 : Int) (a1 : Int) (r : Bool) (w : World) (h : parterrelaw02_NumberBack.f k a0 a1 = some r) (htab : Tbl.Tab0 w) :
    Calls Tryd.prog 6 #[.int .i64 a0, .int .i64 a1] w fun e w' => e = .returned (.bool r) ∧ Below w.heap.size w w' := by
  have HTB := Aside0.mk htab
  clear htab
  have hu33 := Tryd.underlying33
  have HB := Aside0.mk (Below.refl w.heap.size w)
  have H : (if (wrap64 (Int.tmod (IntKind.u64.wrap (a1)) 3)) = 0 then ((number_Text.f k a0 1).bind fun t148 => ((fixed_Is.f a0).bind fun t149 => (if t149 = true then ((number_Value.f k t148 1).bind fun bt150 => (if bt150.2 = 0 then (if bt150.1 = a0 then ((number_Scan.f t148).bind fun t152 => (if t152 = (t148.size : Int) then ((parterrelaw02_lives.f k).bind fun t153 => (some t153)) else (some false))) else (some false)) else (some false))) else (if t148.toList = ([] : List UInt8) then ((parterrelaw02_lives.f k).bind fun t154 => (some t154)) else (some false))))) else (if (wrap64 (Int.tmod (IntKind.u64.wrap (a1)) 3)) = 1 then ((number_Text.f k a0 64).bind fun t155 => ((fixed_Is.f a0).bind fun t156 => (if t156 = true then ((number_Value.f k t155 64).bind fun bt157 => (if bt157.2 = 0 then (if bt157.1 = a0 then ((number_Scan.f t155).bind fun t159 => (if t159 = (t155.size : Int) then ((parterrelaw02_lives.f k).bind fun t160 => (some t160)) else (some false))) else (some false)) else (some false))) else (if t155.toList = ([] : List UInt8) then ((parterrelaw02_lives.f k).bind fun t161 => (some t161)) else (some false))))) else (if (wrap64 (Int.tmod (IntKind.u64.wrap (a1)) 3)) = 2 then ((number_Text.f k a0 1000).bind fun t162 => ((fixed_Is.f a0).bind fun t163 => (if t163 = true then ((number_Value.f k t162 1000).bind fun bt164 => (if bt164.2 = 0 then (if bt164.1 = a0 then ((number_Scan.f t162).bind fun t166 => (if t166 = (t162.size : Int) then ((parterrelaw02_lives.f k).bind fun t167 => (some t167)) else (some false))) else (some false)) else (some false))) else (if t162.toList = ([] : List UInt8) then ((parterrelaw02_lives.f k).bind fun t168 => (some t168)) else (some false))))) else (none)))) = some r := h
  clear h
  by_cases c3 : (wrap64 (Int.tmod (IntKind.u64.wrap (a1)) 3)) = 0
  · rw [if_pos c3] at H
    have c3b0 : ((wrap64 (Int.tmod (IntKind.u64.wrap (a1)) 3)) == 0) = true := beq_iff_eq.mpr c3
    have c3b1 : ((wrap64 (Int.tmod (IntKind.u64.wrap (a1)) 3)) != 0) = false := bne_eq_false_iff_eq.mpr c3
    clear c3
    replace H := Option.bind_eq_some_iff.mp H
    obtain ⟨t148, A50, H⟩ := H
    replace H : ((fixed_Is.f a0).bind fun t149 => (if t149 = true then ((number_Value.f k t148 1).bind fun bt150 => (if bt150.2 = 0 then (if bt150.1 = a0 then ((number_Scan.f t148).bind fun t152 => (if t152 = (t148.size : Int) then ((parterrelaw02_lives.f k).bind fun t153 => (some t153)) else (some false))) else (some false)) else (some false))) else (if t148.toList = ([] : List UInt8) then ((parterrelaw02_lives.f k).bind fun t154 => (some t154)) else (some false)))) = some r := H
    have A5 := Aside0.mk A50
    clear A50
    replace H := Option.bind_eq_some_iff.mp H
    obtain ⟨t149, A60, H⟩ := H
    replace H : (if t149 = true then ((number_Value.f k t148 1).bind fun bt150 => (if bt150.2 = 0 then (if bt150.1 = a0 then ((number_Scan.f t148).bind fun t152 => (if t152 = (t148.size : Int) then ((parterrelaw02_lives.f k).bind fun t153 => (some t153)) else (some false))) else (some false)) else (some false))) else (if t148.toList = ([] : List UInt8) then ((parterrelaw02_lives.f k).bind fun t154 => (some t154)) else (some false))) = some r := H
    have A6 := Aside0.mk A60
    clear A60
    by_cases c7 : t149 = true
    · subst c7
      have H1 : ((number_Value.f k t148 1).bind fun bt150 => (if bt150.2 = 0 then (if bt150.1 = a0 then ((number_Scan.f t148).bind fun t152 => (if t152 = (t148.size : Int) then ((parterrelaw02_lives.f k).bind fun t153 => (some t153)) else (some false))) else (some false)) else (some false))) = some r := by rw [if_pos rfl] at H; exact H
      clear H
      have H := H1
      clear H1
      replace H := Option.bind_eq_some_iff.mp H
      obtain ⟨⟨t150, t151⟩, A80, H⟩ := H
      replace H : (if t151 = 0 then (if t150 = a0 then ((number_Scan.f t148).bind fun t152 => (if t152 = (t148.size : Int) then ((parterrelaw02_lives.f k).bind fun t153 => (some t153)) else (some false))) else (some false)) else (some false)) = some r := H
      have A8 := Aside0.mk A80
      clear A80
      by_cases c9 : t151 = 0
      · rw [if_pos c9] at H
        have c9b0 : (t151 == 0) = true := beq_iff_eq.mpr c9
        have c9b1 : (t151 != 0) = false := bne_eq_false_iff_eq.mpr c9
        clear c9
        by_cases c10 : t150 = a0
        · rw [if_pos c10] at H
          have c10b0 : (t150 == a0) = true := beq_iff_eq.mpr c10
          have c10b1 : (t150 != a0) = false := bne_eq_false_iff_eq.mpr c10
          clear c10
          replace H := Option.bind_eq_some_iff.mp H
          obtain ⟨t152, A110, H⟩ := H
          replace H : (if t152 = (t148.size : Int) then ((parterrelaw02_lives.f k).bind fun t153 => (some t153)) else (some false)) = some r := H
          have A11 := Aside0.mk A110
          clear A110
          by_cases c12 : t152 = (t148.size : Int)
          · rw [if_pos c12] at H
            have c12b0 : (t152 == (t148.size : Int)) = true := beq_iff_eq.mpr c12
            have c12b1 : (t152 != (t148.size : Int)) = false := bne_eq_false_iff_eq.mpr c12
            clear c12
            replace H := Option.bind_eq_some_iff.mp H
            obtain ⟨t153, A130, H⟩ := H
            replace H : (some t153) = some r := H
            have A13 := Aside0.mk A130
            clear A130
            obtain rfl := Option.some.inj H
            have hix4 : ∀ W : World, (Instr.index 33 (.agg #[.int .i64 1, .int .i64 64, .int .i64 1000]) (.int .i64 (wrap64 (Int.tmod (IntKind.u64.wrap (a1)) 3)))).run Tryd.prog W = .ok (.int .i64 1) W := (by intro W; have hj_ : (wrap64 (Int.tmod (IntKind.u64.wrap (a1)) 3)) = 0 := beq_iff_eq.1 (by assumption); rw [hj_]; simp [go_sem, Tryd.underlying33, Tryd.sizeOf3, Instr.index])
            go_enter Tryd.func6, Tryd.ntmps6
            go_wp2_with (first | ((with_reducible refine gate_callee (f := 15) rfl ?_); refine goesL_ (some 17) rfl rfl Tryd.func15 (by kernel_rfl) rfl #[.int .i64 a0, .int .i64 1] rfl (by (try simp only [List.map_toArray, List.map_cons, List.map_nil]); first | done | rfl | (simp only [List.length_drop, List.length_take]; rfl)) ?_; (with_reducible refine (number_Text.calls k a0 1 t148 _ A5.out (Tbl.tab0_stays HTB.out (by repeat (first | (with_reducible first | exact HB.out | apply below_alloc | apply pw_below_drewN | apply below_drew1) | exact HB.out)))).mono ?_); rintro e w14 ⟨rfl, hb⟩; refine ⟨_, rfl, ?_⟩; have n0_ := Aside0.mk (below_step (by repeat (first | (with_reducible first | exact HB.out | apply below_alloc | apply pw_below_drewN | apply below_drew1) | exact HB.out)) hb); clear HB; have HB := n0_; clear n0_; (try clear hb); (try clear hb2); (try clear hk); (try clear hi)) | ((with_reducible refine gate_callee (f := 17) rfl ?_); refine goesL_ (some 19) rfl rfl Tryd.func17 (by kernel_rfl) rfl #[.int .i64 a0] rfl (by (try simp only [List.map_toArray, List.map_cons, List.map_nil]); first | done | rfl | (simp only [List.length_drop, List.length_take]; rfl)) ?_; (with_reducible refine (fixed_Is.calls a0 true _ A6.out).mono ?_); rintro e w' ⟨rfl, ⟨nd, rfl⟩⟩; refine ⟨_, rfl, ?_⟩) | ((with_reducible refine gate_callee (f := 13) rfl ?_); refine goesL_ (some 29) rfl rfl Tryd.func13 (by kernel_rfl) rfl #[.string t148, .int .i64 1] rfl (by (try simp only [List.map_toArray, List.map_cons, List.map_nil]); first | done | rfl | (simp only [List.length_drop, List.length_take]; rfl)) ?_; (with_reducible refine (number_Value.calls k t148 1 t150 t151 _ A8.out).mono ?_); rintro e w15 ⟨rfl, hb⟩; refine ⟨_, rfl, ?_⟩; have n0_ := Aside0.mk (below_step (by repeat (first | (with_reducible first | exact HB.out | apply below_alloc | apply pw_below_drewN | apply below_drew1) | exact HB.out)) hb); clear HB; have HB := n0_; clear n0_; (try clear hb); (try clear hb2); (try clear hk); (try clear hi)) | (go_at_call 11; (with_reducible refine (number_Scan.calls t148 t152 _ A11.out).mono ?_); rintro e w16 ⟨rfl, hb⟩; have n0_ := Aside0.mk (below_step (by repeat (first | (with_reducible first | exact HB.out | apply below_alloc | apply pw_below_drewN | apply below_drew1) | exact HB.out)) hb); clear HB; have HB := n0_; clear n0_; (try clear hb); (try clear hb2); (try clear hk); (try clear hi)) | (go_at_call 10; (with_reducible refine (parterrelaw02_lives.calls k  t153 _ A13.out (Tbl.tab0_stays HTB.out (by repeat (first | (with_reducible first | exact HB.out | apply below_alloc | apply pw_below_drewN | apply below_drew1) | exact HB.out)))).mono ?_); rintro e w17 ⟨rfl, hb⟩; have n0_ := Aside0.mk (below_step (by repeat (first | (with_reducible first | exact HB.out | apply below_alloc | apply pw_below_drewN | apply below_drew1) | exact HB.out)) hb); clear HB; have HB := n0_; clear n0_; (try clear hb); (try clear hb2); (try clear hk); (try clear hi)))
            go_ret
            exact ⟨by first | rfl | (simp [errW_none, errW_some] <;> rfl) | (simp [*, errW_none, errW_some] <;> rfl), by repeat (first | (with_reducible first | exact HB.out | apply below_alloc | apply pw_below_drewN | apply below_drew1) | exact HB.out)⟩
          · rw [if_neg c12] at H
            have c12b0 : (t152 == (t148.size : Int)) = false := beq_eq_false_iff_ne.mpr c12
            have c12b1 : (t152 != (t148.size : Int)) = true := bne_iff_ne.mpr c12
            obtain rfl := Option.some.inj H
            have hix4 : ∀ W : World, (Instr.index 33 (.agg #[.int .i64 1, .int .i64 64, .int .i64 1000]) (.int .i64 (wrap64 (Int.tmod (IntKind.u64.wrap (a1)) 3)))).run Tryd.prog W = .ok (.int .i64 1) W := (by intro W; have hj_ : (wrap64 (Int.tmod (IntKind.u64.wrap (a1)) 3)) = 0 := beq_iff_eq.1 (by assumption); rw [hj_]; simp [go_sem, Tryd.underlying33, Tryd.sizeOf3, Instr.index])
            go_enter Tryd.func6, Tryd.ntmps6
            go_wp2_with (first | ((with_reducible refine gate_callee (f := 15) rfl ?_); refine goesL_ (some 17) rfl rfl Tryd.func15 (by kernel_rfl) rfl #[.int .i64 a0, .int .i64 1] rfl (by (try simp only [List.map_toArray, List.map_cons, List.map_nil]); first | done | rfl | (simp only [List.length_drop, List.length_take]; rfl)) ?_; (with_reducible refine (number_Text.calls k a0 1 t148 _ A5.out (Tbl.tab0_stays HTB.out (by repeat (first | (with_reducible first | exact HB.out | apply below_alloc | apply pw_below_drewN | apply below_drew1) | exact HB.out)))).mono ?_); rintro e w18 ⟨rfl, hb⟩; refine ⟨_, rfl, ?_⟩; have n0_ := Aside0.mk (below_step (by repeat (first | (with_reducible first | exact HB.out | apply below_alloc | apply pw_below_drewN | apply below_drew1) | exact HB.out)) hb); clear HB; have HB := n0_; clear n0_; (try clear hb); (try clear hb2); (try clear hk); (try clear hi)) | ((with_reducible refine gate_callee (f := 17) rfl ?_); refine goesL_ (some 19) rfl rfl Tryd.func17 (by kernel_rfl) rfl #[.int .i64 a0] rfl (by (try simp only [List.map_toArray, List.map_cons, List.map_nil]); first | done | rfl | (simp only [List.length_drop, List.length_take]; rfl)) ?_; (with_reducible refine (fixed_Is.calls a0 true _ A6.out).mono ?_); rintro e w' ⟨rfl, ⟨nd, rfl⟩⟩; refine ⟨_, rfl, ?_⟩) | ((with_reducible refine gate_callee (f := 13) rfl ?_); refine goesL_ (some 29) rfl rfl Tryd.func13 (by kernel_rfl) rfl #[.string t148, .int .i64 1] rfl (by (try simp only [List.map_toArray, List.map_cons, List.map_nil]); first | done | rfl | (simp only [List.length_drop, List.length_take]; rfl)) ?_; (with_reducible refine (number_Value.calls k t148 1 t150 t151 _ A8.out).mono ?_); rintro e w19 ⟨rfl, hb⟩; refine ⟨_, rfl, ?_⟩; have n0_ := Aside0.mk (below_step (by repeat (first | (with_reducible first | exact HB.out | apply below_alloc | apply pw_below_drewN | apply below_drew1) | exact HB.out)) hb); clear HB; have HB := n0_; clear n0_; (try clear hb); (try clear hb2); (try clear hk); (try clear hi)) | (go_at_call 11; (with_reducible refine (number_Scan.calls t148 t152 _ A11.out).mono ?_); rintro e w20 ⟨rfl, hb⟩; have n0_ := Aside0.mk (below_step (by repeat (first | (with_reducible first | exact HB.out | apply below_alloc | apply pw_below_drewN | apply below_drew1) | exact HB.out)) hb); clear HB; have HB := n0_; clear n0_; (try clear hb); (try clear hb2); (try clear hk); (try clear hi)))
            go_ret
            exact ⟨by first | rfl | (simp [errW_none, errW_some] <;> rfl) | (simp [*, errW_none, errW_some] <;> rfl), by repeat (first | (with_reducible first | exact HB.out | apply below_alloc | apply pw_below_drewN | apply below_drew1) | exact HB.out)⟩
        · rw [if_neg c10] at H
          have c10b0 : (t150 == a0) = false := beq_eq_false_iff_ne.mpr c10
          have c10b1 : (t150 != a0) = true := bne_iff_ne.mpr c10
          obtain rfl := Option.some.inj H
          have hix4 : ∀ W : World, (Instr.index 33 (.agg #[.int .i64 1, .int .i64 64, .int .i64 1000]) (.int .i64 (wrap64 (Int.tmod (IntKind.u64.wrap (a1)) 3)))).run Tryd.prog W = .ok (.int .i64 1) W := (by intro W; have hj_ : (wrap64 (Int.tmod (IntKind.u64.wrap (a1)) 3)) = 0 := beq_iff_eq.1 (by assumption); rw [hj_]; simp [go_sem, Tryd.underlying33, Tryd.sizeOf3, Instr.index])
          go_enter Tryd.func6, Tryd.ntmps6
          go_wp2_with (first | ((with_reducible refine gate_callee (f := 15) rfl ?_); refine goesL_ (some 17) rfl rfl Tryd.func15 (by kernel_rfl) rfl #[.int .i64 a0, .int .i64 1] rfl (by (try simp only [List.map_toArray, List.map_cons, List.map_nil]); first | done | rfl | (simp only [List.length_drop, List.length_take]; rfl)) ?_; (with_reducible refine (number_Text.calls k a0 1 t148 _ A5.out (Tbl.tab0_stays HTB.out (by repeat (first | (with_reducible first | exact HB.out | apply below_alloc | apply pw_below_drewN | apply below_drew1) | exact HB.out)))).mono ?_); rintro e w21 ⟨rfl, hb⟩; refine ⟨_, rfl, ?_⟩; have n0_ := Aside0.mk (below_step (by repeat (first | (with_reducible first | exact HB.out | apply below_alloc | apply pw_below_drewN | apply below_drew1) | exact HB.out)) hb); clear HB; have HB := n0_; clear n0_; (try clear hb); (try clear hb2); (try clear hk); (try clear hi)) | ((with_reducible refine gate_callee (f := 17) rfl ?_); refine goesL_ (some 19) rfl rfl Tryd.func17 (by kernel_rfl) rfl #[.int .i64 a0] rfl (by (try simp only [List.map_toArray, List.map_cons, List.map_nil]); first | done | rfl | (simp only [List.length_drop, List.length_take]; rfl)) ?_; (with_reducible refine (fixed_Is.calls a0 true _ A6.out).mono ?_); rintro e w' ⟨rfl, ⟨nd, rfl⟩⟩; refine ⟨_, rfl, ?_⟩) | ((with_reducible refine gate_callee (f := 13) rfl ?_); refine goesL_ (some 29) rfl rfl Tryd.func13 (by kernel_rfl) rfl #[.string t148, .int .i64 1] rfl (by (try simp only [List.map_toArray, List.map_cons, List.map_nil]); first | done | rfl | (simp only [List.length_drop, List.length_take]; rfl)) ?_; (with_reducible refine (number_Value.calls k t148 1 t150 t151 _ A8.out).mono ?_); rintro e w22 ⟨rfl, hb⟩; refine ⟨_, rfl, ?_⟩; have n0_ := Aside0.mk (below_step (by repeat (first | (with_reducible first | exact HB.out | apply below_alloc | apply pw_below_drewN | apply below_drew1) | exact HB.out)) hb); clear HB; have HB := n0_; clear n0_; (try clear hb); (try clear hb2); (try clear hk); (try clear hi)))
          go_ret
          exact ⟨by first | rfl | (simp [errW_none, errW_some] <;> rfl) | (simp [*, errW_none, errW_some] <;> rfl), by repeat (first | (with_reducible first | exact HB.out | apply below_alloc | apply pw_below_drewN | apply below_drew1) | exact HB.out)⟩
      · rw [if_neg c9] at H
        have c9b0 : (t151 == 0) = false := beq_eq_false_iff_ne.mpr c9
        have c9b1 : (t151 != 0) = true := bne_iff_ne.mpr c9
        obtain rfl := Option.some.inj H
        have hix4 : ∀ W : World, (Instr.index 33 (.agg #[.int .i64 1, .int .i64 64, .int .i64 1000]) (.int .i64 (wrap64 (Int.tmod (IntKind.u64.wrap (a1)) 3)))).run Tryd.prog W = .ok (.int .i64 1) W := (by intro W; have hj_ : (wrap64 (Int.tmod (IntKind.u64.wrap (a1)) 3)) = 0 := beq_iff_eq.1 (by assumption); rw [hj_]; simp [go_sem, Tryd.underlying33, Tryd.sizeOf3, Instr.index])
        go_enter Tryd.func6, Tryd.ntmps6
        go_wp2_with (first | ((with_reducible refine gate_callee (f := 15) rfl ?_); refine goesL_ (some 17) rfl rfl Tryd.func15 (by kernel_rfl) rfl #[.int .i64 a0, .int .i64 1] rfl (by (try simp only [List.map_toArray, List.map_cons, List.map_nil]); first | done | rfl | (simp only [List.length_drop, List.length_take]; rfl)) ?_; (with_reducible refine (number_Text.calls k a0 1 t148 _ A5.out (Tbl.tab0_stays HTB.out (by repeat (first | (with_reducible first | exact HB.out | apply below_alloc | apply pw_below_drewN | apply below_drew1) | exact HB.out)))).mono ?_); rintro e w23 ⟨rfl, hb⟩; refine ⟨_, rfl, ?_⟩; have n0_ := Aside0.mk (below_step (by repeat (first | (with_reducible first | exact HB.out | apply below_alloc | apply pw_below_drewN | apply below_drew1) | exact HB.out)) hb); clear HB; have HB := n0_; clear n0_; (try clear hb); (try clear hb2); (try clear hk); (try clear hi)) | ((with_reducible refine gate_callee (f := 17) rfl ?_); refine goesL_ (some 19) rfl rfl Tryd.func17 (by kernel_rfl) rfl #[.int .i64 a0] rfl (by (try simp only [List.map_toArray, List.map_cons, List.map_nil]); first | done | rfl | (simp only [List.length_drop, List.length_take]; rfl)) ?_; (with_reducible refine (fixed_Is.calls a0 true _ A6.out).mono ?_); rintro e w' ⟨rfl, ⟨nd, rfl⟩⟩; refine ⟨_, rfl, ?_⟩) | ((with_reducible refine gate_callee (f := 13) rfl ?_); refine goesL_ (some 29) rfl rfl Tryd.func13 (by kernel_rfl) rfl #[.string t148, .int .i64 1] rfl (by (try simp only [List.map_toArray, List.map_cons, List.map_nil]); first | done | rfl | (simp only [List.length_drop, List.length_take]; rfl)) ?_; (with_reducible refine (number_Value.calls k t148 1 t150 t151 _ A8.out).mono ?_); rintro e w24 ⟨rfl, hb⟩; refine ⟨_, rfl, ?_⟩; have n0_ := Aside0.mk (below_step (by repeat (first | (with_reducible first | exact HB.out | apply below_alloc | apply pw_below_drewN | apply below_drew1) | exact HB.out)) hb); clear HB; have HB := n0_; clear n0_; (try clear hb); (try clear hb2); (try clear hk); (try clear hi)))
        go_ret
        exact ⟨by first | rfl | (simp [errW_none, errW_some] <;> rfl) | (simp [*, errW_none, errW_some] <;> rfl), by repeat (first | (with_reducible first | exact HB.out | apply below_alloc | apply pw_below_drewN | apply below_drew1) | exact HB.out)⟩
    · replace c7 := Bool.eq_false_iff.mpr c7
      subst c7
      have H1 : (if t148.toList = ([] : List UInt8) then ((parterrelaw02_lives.f k).bind fun t154 => (some t154)) else (some false)) = some r := by rw [if_neg (show ¬ (false = true) by decide)] at H; exact H
      clear H
      have H := H1
      clear H1
      by_cases c25 : t148.toList = ([] : List UInt8)
      · rw [if_pos c25] at H
        have c25b0 : (t148.toList == ([] : List UInt8)) = true := beq_iff_eq.mpr c25
        have c25b1 : (t148.toList != ([] : List UInt8)) = false := bne_eq_false_iff_eq.mpr c25
        clear c25
        replace H := Option.bind_eq_some_iff.mp H
        obtain ⟨t154, A260, H⟩ := H
        replace H : (some t154) = some r := H
        have A26 := Aside0.mk A260
        clear A260
        obtain rfl := Option.some.inj H
        have hix4 : ∀ W : World, (Instr.index 33 (.agg #[.int .i64 1, .int .i64 64, .int .i64 1000]) (.int .i64 (wrap64 (Int.tmod (IntKind.u64.wrap (a1)) 3)))).run Tryd.prog W = .ok (.int .i64 1) W := (by intro W; have hj_ : (wrap64 (Int.tmod (IntKind.u64.wrap (a1)) 3)) = 0 := beq_iff_eq.1 (by assumption); rw [hj_]; simp [go_sem, Tryd.underlying33, Tryd.sizeOf3, Instr.index])
        go_enter Tryd.func6, Tryd.ntmps6
        go_wp2_with (first | ((with_reducible refine gate_callee (f := 15) rfl ?_); refine goesL_ (some 17) rfl rfl Tryd.func15 (by kernel_rfl) rfl #[.int .i64 a0, .int .i64 1] rfl (by (try simp only [List.map_toArray, List.map_cons, List.map_nil]); first | done | rfl | (simp only [List.length_drop, List.length_take]; rfl)) ?_; (with_reducible refine (number_Text.calls k a0 1 t148 _ A5.out (Tbl.tab0_stays HTB.out (by repeat (first | (with_reducible first | exact HB.out | apply below_alloc | apply pw_below_drewN | apply below_drew1) | exact HB.out)))).mono ?_); rintro e w27 ⟨rfl, hb⟩; refine ⟨_, rfl, ?_⟩; have n0_ := Aside0.mk (below_step (by repeat (first | (with_reducible first | exact HB.out | apply below_alloc | apply pw_below_drewN | apply below_drew1) | exact HB.out)) hb); clear HB; have HB := n0_; clear n0_; (try clear hb); (try clear hb2); (try clear hk); (try clear hi)) | ((with_reducible refine gate_callee (f := 17) rfl ?_); refine goesL_ (some 19) rfl rfl Tryd.func17 (by kernel_rfl) rfl #[.int .i64 a0] rfl (by (try simp only [List.map_toArray, List.map_cons, List.map_nil]); first | done | rfl | (simp only [List.length_drop, List.length_take]; rfl)) ?_; (with_reducible refine (fixed_Is.calls a0 false _ A6.out).mono ?_); rintro e w' ⟨rfl, ⟨nd, rfl⟩⟩; refine ⟨_, rfl, ?_⟩) | (go_at_call 10; (with_reducible refine (parterrelaw02_lives.calls k  t154 _ A26.out (Tbl.tab0_stays HTB.out (by repeat (first | (with_reducible first | exact HB.out | apply below_alloc | apply pw_below_drewN | apply below_drew1) | exact HB.out)))).mono ?_); rintro e w28 ⟨rfl, hb⟩; have n0_ := Aside0.mk (below_step (by repeat (first | (with_reducible first | exact HB.out | apply below_alloc | apply pw_below_drewN | apply below_drew1) | exact HB.out)) hb); clear HB; have HB := n0_; clear n0_; (try clear hb); (try clear hb2); (try clear hk); (try clear hi)))
        go_ret
        exact ⟨by first | rfl | (simp [errW_none, errW_some] <;> rfl) | (simp [*, errW_none, errW_some] <;> rfl), by repeat (first | (with_reducible first | exact HB.out | apply below_alloc | apply pw_below_drewN | apply below_drew1) | exact HB.out)⟩
      · rw [if_neg c25] at H
        have c25b0 : (t148.toList == ([] : List UInt8)) = false := beq_eq_false_iff_ne.mpr c25
        have c25b1 : (t148.toList != ([] : List UInt8)) = true := bne_iff_ne.mpr c25
        obtain rfl := Option.some.inj H
        have hix4 : ∀ W : World, (Instr.index 33 (.agg #[.int .i64 1, .int .i64 64, .int .i64 1000]) (.int .i64 (wrap64 (Int.tmod (IntKind.u64.wrap (a1)) 3)))).run Tryd.prog W = .ok (.int .i64 1) W := (by intro W; have hj_ : (wrap64 (Int.tmod (IntKind.u64.wrap (a1)) 3)) = 0 := beq_iff_eq.1 (by assumption); rw [hj_]; simp [go_sem, Tryd.underlying33, Tryd.sizeOf3, Instr.index])
        go_enter Tryd.func6, Tryd.ntmps6
        go_wp2_with (first | ((with_reducible refine gate_callee (f := 15) rfl ?_); refine goesL_ (some 17) rfl rfl Tryd.func15 (by kernel_rfl) rfl #[.int .i64 a0, .int .i64 1] rfl (by (try simp only [List.map_toArray, List.map_cons, List.map_nil]); first | done | rfl | (simp only [List.length_drop, List.length_take]; rfl)) ?_; (with_reducible refine (number_Text.calls k a0 1 t148 _ A5.out (Tbl.tab0_stays HTB.out (by repeat (first | (with_reducible first | exact HB.out | apply below_alloc | apply pw_below_drewN | apply below_drew1) | exact HB.out)))).mono ?_); rintro e w29 ⟨rfl, hb⟩; refine ⟨_, rfl, ?_⟩; have n0_ := Aside0.mk (below_step (by repeat (first | (with_reducible first | exact HB.out | apply below_alloc | apply pw_below_drewN | apply below_drew1) | exact HB.out)) hb); clear HB; have HB := n0_; clear n0_; (try clear hb); (try clear hb2); (try clear hk); (try clear hi)) | ((with_reducible refine gate_callee (f := 17) rfl ?_); refine goesL_ (some 19) rfl rfl Tryd.func17 (by kernel_rfl) rfl #[.int .i64 a0] rfl (by (try simp only [List.map_toArray, List.map_cons, List.map_nil]); first | done | rfl | (simp only [List.length_drop, List.length_take]; rfl)) ?_; (with_reducible refine (fixed_Is.calls a0 false _ A6.out).mono ?_); rintro e w' ⟨rfl, ⟨nd, rfl⟩⟩; refine ⟨_, rfl, ?_⟩))
        go_ret
        exact ⟨by first | rfl | (simp [errW_none, errW_some] <;> rfl) | (simp [*, errW_none, errW_some] <;> rfl), by repeat (first | (with_reducible first | exact HB.out | apply below_alloc | apply pw_below_drewN | apply below_drew1) | exact HB.out)⟩
  · rw [if_neg c3] at H
    have c3b0 : ((wrap64 (Int.tmod (IntKind.u64.wrap (a1)) 3)) == 0) = false := beq_eq_false_iff_ne.mpr c3
    have c3b1 : ((wrap64 (Int.tmod (IntKind.u64.wrap (a1)) 3)) != 0) = true := bne_iff_ne.mpr c3
    by_cases c30 : (wrap64 (Int.tmod (IntKind.u64.wrap (a1)) 3)) = 1
    · rw [if_pos c30] at H
      have c30b0 : ((wrap64 (Int.tmod (IntKind.u64.wrap (a1)) 3)) == 1) = true := beq_iff_eq.mpr c30
      have c30b1 : ((wrap64 (Int.tmod (IntKind.u64.wrap (a1)) 3)) != 1) = false := bne_eq_false_iff_eq.mpr c30
      clear c30
      replace H := Option.bind_eq_some_iff.mp H
      obtain ⟨t155, A320, H⟩ := H
      replace H : ((fixed_Is.f a0).bind fun t156 => (if t156 = true then ((number_Value.f k t155 64).bind fun bt157 => (if bt157.2 = 0 then (if bt157.1 = a0 then ((number_Scan.f t155).bind fun t159 => (if t159 = (t155.size : Int) then ((parterrelaw02_lives.f k).bind fun t160 => (some t160)) else (some false))) else (some false)) else (some false))) else (if t155.toList = ([] : List UInt8) then ((parterrelaw02_lives.f k).bind fun t161 => (some t161)) else (some false)))) = some r := H
      have A32 := Aside0.mk A320
      clear A320
      replace H := Option.bind_eq_some_iff.mp H
      obtain ⟨t156, A330, H⟩ := H
      replace H : (if t156 = true then ((number_Value.f k t155 64).bind fun bt157 => (if bt157.2 = 0 then (if bt157.1 = a0 then ((number_Scan.f t155).bind fun t159 => (if t159 = (t155.size : Int) then ((parterrelaw02_lives.f k).bind fun t160 => (some t160)) else (some false))) else (some false)) else (some false))) else (if t155.toList = ([] : List UInt8) then ((parterrelaw02_lives.f k).bind fun t161 => (some t161)) else (some false))) = some r := H
      have A33 := Aside0.mk A330
      clear A330
      by_cases c34 : t156 = true
      · subst c34
        have H1 : ((number_Value.f k t155 64).bind fun bt157 => (if bt157.2 = 0 then (if bt157.1 = a0 then ((number_Scan.f t155).bind fun t159 => (if t159 = (t155.size : Int) then ((parterrelaw02_lives.f k).bind fun t160 => (some t160)) else (some false))) else (some false)) else (some false))) = some r := by rw [if_pos rfl] at H; exact H
        clear H
        have H := H1
        clear H1
        replace H := Option.bind_eq_some_iff.mp H
        obtain ⟨⟨t157, t158⟩, A350, H⟩ := H
        replace H : (if t158 = 0 then (if t157 = a0 then ((number_Scan.f t155).bind fun t159 => (if t159 = (t155.size : Int) then ((parterrelaw02_lives.f k).bind fun t160 => (some t160)) else (some false))) else (some false)) else (some false)) = some r := H
        have A35 := Aside0.mk A350
        clear A350
        by_cases c36 : t158 = 0
        · rw [if_pos c36] at H
          have c36b0 : (t158 == 0) = true := beq_iff_eq.mpr c36
          have c36b1 : (t158 != 0) = false := bne_eq_false_iff_eq.mpr c36
          clear c36
          by_cases c37 : t157 = a0
          · rw [if_pos c37] at H
            have c37b0 : (t157 == a0) = true := beq_iff_eq.mpr c37
            have c37b1 : (t157 != a0) = false := bne_eq_false_iff_eq.mpr c37
            clear c37
            replace H := Option.bind_eq_some_iff.mp H
            obtain ⟨t159, A380, H⟩ := H
            replace H : (if t159 = (t155.size : Int) then ((parterrelaw02_lives.f k).bind fun t160 => (some t160)) else (some false)) = some r := H
            have A38 := Aside0.mk A380
            clear A380
            by_cases c39 : t159 = (t155.size : Int)
            · rw [if_pos c39] at H
              have c39b0 : (t159 == (t155.size : Int)) = true := beq_iff_eq.mpr c39
              have c39b1 : (t159 != (t155.size : Int)) = false := bne_eq_false_iff_eq.mpr c39
              clear c39
              replace H := Option.bind_eq_some_iff.mp H
              obtain ⟨t160, A400, H⟩ := H
              replace H : (some t160) = some r := H
              have A40 := Aside0.mk A400
              clear A400
              obtain rfl := Option.some.inj H
              have hix31 : ∀ W : World, (Instr.index 33 (.agg #[.int .i64 1, .int .i64 64, .int .i64 1000]) (.int .i64 (wrap64 (Int.tmod (IntKind.u64.wrap (a1)) 3)))).run Tryd.prog W = .ok (.int .i64 64) W := (by intro W; have hj_ : (wrap64 (Int.tmod (IntKind.u64.wrap (a1)) 3)) = 1 := beq_iff_eq.1 (by assumption); rw [hj_]; simp [go_sem, Tryd.underlying33, Tryd.sizeOf3, Instr.index])
              go_enter Tryd.func6, Tryd.ntmps6
              go_wp2_with (first | ((with_reducible refine gate_callee (f := 15) rfl ?_); refine goesL_ (some 17) rfl rfl Tryd.func15 (by kernel_rfl) rfl #[.int .i64 a0, .int .i64 64] rfl (by (try simp only [List.map_toArray, List.map_cons, List.map_nil]); first | done | rfl | (simp only [List.length_drop, List.length_take]; rfl)) ?_; (with_reducible refine (number_Text.calls k a0 64 t155 _ A32.out (Tbl.tab0_stays HTB.out (by repeat (first | (with_reducible first | exact HB.out | apply below_alloc | apply pw_below_drewN | apply below_drew1) | exact HB.out)))).mono ?_); rintro e w41 ⟨rfl, hb⟩; refine ⟨_, rfl, ?_⟩; have n0_ := Aside0.mk (below_step (by repeat (first | (with_reducible first | exact HB.out | apply below_alloc | apply pw_below_drewN | apply below_drew1) | exact HB.out)) hb); clear HB; have HB := n0_; clear n0_; (try clear hb); (try clear hb2); (try clear hk); (try clear hi)) | ((with_reducible refine gate_callee (f := 17) rfl ?_); refine goesL_ (some 19) rfl rfl Tryd.func17 (by kernel_rfl) rfl #[.int .i64 a0] rfl (by (try simp only [List.map_toArray, List.map_cons, List.map_nil]); first | done | rfl | (simp only [List.length_drop, List.length_take]; rfl)) ?_; (with_reducible refine (fixed_Is.calls a0 true _ A33.out).mono ?_); rintro e w' ⟨rfl, ⟨nd, rfl⟩⟩; refine ⟨_, rfl, ?_⟩) | ((with_reducible refine gate_callee (f := 13) rfl ?_); refine goesL_ (some 29) rfl rfl Tryd.func13 (by kernel_rfl) rfl #[.string t155, .int .i64 64] rfl (by (try simp only [List.map_toArray, List.map_cons, List.map_nil]); first | done | rfl | (simp only [List.length_drop, List.length_take]; rfl)) ?_; (with_reducible refine (number_Value.calls k t155 64 t157 t158 _ A35.out).mono ?_); rintro e w42 ⟨rfl, hb⟩; refine ⟨_, rfl, ?_⟩; have n0_ := Aside0.mk (below_step (by repeat (first | (with_reducible first | exact HB.out | apply below_alloc | apply pw_below_drewN | apply below_drew1) | exact HB.out)) hb); clear HB; have HB := n0_; clear n0_; (try clear hb); (try clear hb2); (try clear hk); (try clear hi)) | (go_at_call 11; (with_reducible refine (number_Scan.calls t155 t159 _ A38.out).mono ?_); rintro e w43 ⟨rfl, hb⟩; have n0_ := Aside0.mk (below_step (by repeat (first | (with_reducible first | exact HB.out | apply below_alloc | apply pw_below_drewN | apply below_drew1) | exact HB.out)) hb); clear HB; have HB := n0_; clear n0_; (try clear hb); (try clear hb2); (try clear hk); (try clear hi)) | (go_at_call 10; (with_reducible refine (parterrelaw02_lives.calls k  t160 _ A40.out (Tbl.tab0_stays HTB.out (by repeat (first | (with_reducible first | exact HB.out | apply below_alloc | apply pw_below_drewN | apply below_drew1) | exact HB.out)))).mono ?_); rintro e w44 ⟨rfl, hb⟩; have n0_ := Aside0.mk (below_step (by repeat (first | (with_reducible first | exact HB.out | apply below_alloc | apply pw_below_drewN | apply below_drew1) | exact HB.out)) hb); clear HB; have HB := n0_; clear n0_; (try clear hb); (try clear hb2); (try clear hk); (try clear hi)))
              go_ret
              exact ⟨by first | rfl | (simp [errW_none, errW_some] <;> rfl) | (simp [*, errW_none, errW_some] <;> rfl), by repeat (first | (with_reducible first | exact HB.out | apply below_alloc | apply pw_below_drewN | apply below_drew1) | exact HB.out)⟩
            · rw [if_neg c39] at H
              have c39b0 : (t159 == (t155.size : Int)) = false := beq_eq_false_iff_ne.mpr c39
              have c39b1 : (t159 != (t155.size : Int)) = true := bne_iff_ne.mpr c39
              obtain rfl := Option.some.inj H
              have hix31 : ∀ W : World, (Instr.index 33 (.agg #[.int .i64 1, .int .i64 64, .int .i64 1000]) (.int .i64 (wrap64 (Int.tmod (IntKind.u64.wrap (a1)) 3)))).run Tryd.prog W = .ok (.int .i64 64) W := (by intro W; have hj_ : (wrap64 (Int.tmod (IntKind.u64.wrap (a1)) 3)) = 1 := beq_iff_eq.1 (by assumption); rw [hj_]; simp [go_sem, Tryd.underlying33, Tryd.sizeOf3, Instr.index])
              go_enter Tryd.func6, Tryd.ntmps6
              go_wp2_with (first | ((with_reducible refine gate_callee (f := 15) rfl ?_); refine goesL_ (some 17) rfl rfl Tryd.func15 (by kernel_rfl) rfl #[.int .i64 a0, .int .i64 64] rfl (by (try simp only [List.map_toArray, List.map_cons, List.map_nil]); first | done | rfl | (simp only [List.length_drop, List.length_take]; rfl)) ?_; (with_reducible refine (number_Text.calls k a0 64 t155 _ A32.out (Tbl.tab0_stays HTB.out (by repeat (first | (with_reducible first | exact HB.out | apply below_alloc | apply pw_below_drewN | apply below_drew1) | exact HB.out)))).mono ?_); rintro e w45 ⟨rfl, hb⟩; refine ⟨_, rfl, ?_⟩; have n0_ := Aside0.mk (below_step (by repeat (first | (with_reducible first | exact HB.out | apply below_alloc | apply pw_below_drewN | apply below_drew1) | exact HB.out)) hb); clear HB; have HB := n0_; clear n0_; (try clear hb); (try clear hb2); (try clear hk); (try clear hi)) | ((with_reducible refine gate_callee (f := 17) rfl ?_); refine goesL_ (some 19) rfl rfl Tryd.func17 (by kernel_rfl) rfl #[.int .i64 a0] rfl (by (try simp only [List.map_toArray, List.map_cons, List.map_nil]); first | done | rfl | (simp only [List.length_drop, List.length_take]; rfl)) ?_; (with_reducible refine (fixed_Is.calls a0 true _ A33.out).mono ?_); rintro e w' ⟨rfl, ⟨nd, rfl⟩⟩; refine ⟨_, rfl, ?_⟩) | ((with_reducible refine gate_callee (f := 13) rfl ?_); refine goesL_ (some 29) rfl rfl Tryd.func13 (by kernel_rfl) rfl #[.string t155, .int .i64 64] rfl (by (try simp only [List.map_toArray, List.map_cons, List.map_nil]); first | done | rfl | (simp only [List.length_drop, List.length_take]; rfl)) ?_; (with_reducible refine (number_Value.calls k t155 64 t157 t158 _ A35.out).mono ?_); rintro e w46 ⟨rfl, hb⟩; refine ⟨_, rfl, ?_⟩; have n0_ := Aside0.mk (below_step (by repeat (first | (with_reducible first | exact HB.out | apply below_alloc | apply pw_below_drewN | apply below_drew1) | exact HB.out)) hb); clear HB; have HB := n0_; clear n0_; (try clear hb); (try clear hb2); (try clear hk); (try clear hi)) | (go_at_call 11; (with_reducible refine (number_Scan.calls t155 t159 _ A38.out).mono ?_); rintro e w47 ⟨rfl, hb⟩; have n0_ := Aside0.mk (below_step (by repeat (first | (with_reducible first | exact HB.out | apply below_alloc | apply pw_below_drewN | apply below_drew1) | exact HB.out)) hb); clear HB; have HB := n0_; clear n0_; (try clear hb); (try clear hb2); (try clear hk); (try clear hi)))
              go_ret
              exact ⟨by first | rfl | (simp [errW_none, errW_some] <;> rfl) | (simp [*, errW_none, errW_some] <;> rfl), by repeat (first | (with_reducible first | exact HB.out | apply below_alloc | apply pw_below_drewN | apply below_drew1) | exact HB.out)⟩
          · rw [if_neg c37] at H
            have c37b0 : (t157 == a0) = false := beq_eq_false_iff_ne.mpr c37
            have c37b1 : (t157 != a0) = true := bne_iff_ne.mpr c37
            obtain rfl := Option.some.inj H
            have hix31 : ∀ W : World, (Instr.index 33 (.agg #[.int .i64 1, .int .i64 64, .int .i64 1000]) (.int .i64 (wrap64 (Int.tmod (IntKind.u64.wrap (a1)) 3)))).run Tryd.prog W = .ok (.int .i64 64) W := (by intro W; have hj_ : (wrap64 (Int.tmod (IntKind.u64.wrap (a1)) 3)) = 1 := beq_iff_eq.1 (by assumption); rw [hj_]; simp [go_sem, Tryd.underlying33, Tryd.sizeOf3, Instr.index])
            go_enter Tryd.func6, Tryd.ntmps6
            go_wp2_with (first | ((with_reducible refine gate_callee (f := 15) rfl ?_); refine goesL_ (some 17) rfl rfl Tryd.func15 (by kernel_rfl) rfl #[.int .i64 a0, .int .i64 64] rfl (by (try simp only [List.map_toArray, List.map_cons, List.map_nil]); first | done | rfl | (simp only [List.length_drop, List.length_take]; rfl)) ?_; (with_reducible refine (number_Text.calls k a0 64 t155 _ A32.out (Tbl.tab0_stays HTB.out (by repeat (first | (with_reducible first | exact HB.out | apply below_alloc | apply pw_below_drewN | apply below_drew1) | exact HB.out)))).mono ?_); rintro e w48 ⟨rfl, hb⟩; refine ⟨_, rfl, ?_⟩; have n0_ := Aside0.mk (below_step (by repeat (first | (with_reducible first | exact HB.out | apply below_alloc | apply pw_below_drewN | apply below_drew1) | exact HB.out)) hb); clear HB; have HB := n0_; clear n0_; (try clear hb); (try clear hb2); (try clear hk); (try clear hi)) | ((with_reducible refine gate_callee (f := 17) rfl ?_); refine goesL_ (some 19) rfl rfl Tryd.func17 (by kernel_rfl) rfl #[.int .i64 a0] rfl (by (try simp only [List.map_toArray, List.map_cons, List.map_nil]); first | done | rfl | (simp only [List.length_drop, List.length_take]; rfl)) ?_; (with_reducible refine (fixed_Is.calls a0 true _ A33.out).mono ?_); rintro e w' ⟨rfl, ⟨nd, rfl⟩⟩; refine ⟨_, rfl, ?_⟩) | ((with_reducible refine gate_callee (f := 13) rfl ?_); refine goesL_ (some 29) rfl rfl Tryd.func13 (by kernel_rfl) rfl #[.string t155, .int .i64 64] rfl (by (try simp only [List.map_toArray, List.map_cons, List.map_nil]); first | done | rfl | (simp only [List.length_drop, List.length_take]; rfl)) ?_; (with_reducible refine (number_Value.calls k t155 64 t157 t158 _ A35.out).mono ?_); rintro e w49 ⟨rfl, hb⟩; refine ⟨_, rfl, ?_⟩; have n0_ := Aside0.mk (below_step (by repeat (first | (with_reducible first | exact HB.out | apply below_alloc | apply pw_below_drewN | apply below_drew1) | exact HB.out)) hb); clear HB; have HB := n0_; clear n0_; (try clear hb); (try clear hb2); (try clear hk); (try clear hi)))
            go_ret
            exact ⟨by first | rfl | (simp [errW_none, errW_some] <;> rfl) | (simp [*, errW_none, errW_some] <;> rfl), by repeat (first | (with_reducible first | exact HB.out | apply below_alloc | apply pw_below_drewN | apply below_drew1) | exact HB.out)⟩
        · rw [if_neg c36] at H
          have c36b0 : (t158 == 0) = false := beq_eq_false_iff_ne.mpr c36
          have c36b1 : (t158 != 0) = true := bne_iff_ne.mpr c36
          obtain rfl := Option.some.inj H
          have hix31 : ∀ W : World, (Instr.index 33 (.agg #[.int .i64 1, .int .i64 64, .int .i64 1000]) (.int .i64 (wrap64 (Int.tmod (IntKind.u64.wrap (a1)) 3)))).run Tryd.prog W = .ok (.int .i64 64) W := (by intro W; have hj_ : (wrap64 (Int.tmod (IntKind.u64.wrap (a1)) 3)) = 1 := beq_iff_eq.1 (by assumption); rw [hj_]; simp [go_sem, Tryd.underlying33, Tryd.sizeOf3, Instr.index])
          go_enter Tryd.func6, Tryd.ntmps6
          go_wp2_with (first | ((with_reducible refine gate_callee (f := 15) rfl ?_); refine goesL_ (some 17) rfl rfl Tryd.func15 (by kernel_rfl) rfl #[.int .i64 a0, .int .i64 64] rfl (by (try simp only [List.map_toArray, List.map_cons, List.map_nil]); first | done | rfl | (simp only [List.length_drop, List.length_take]; rfl)) ?_; (with_reducible refine (number_Text.calls k a0 64 t155 _ A32.out (Tbl.tab0_stays HTB.out (by repeat (first | (with_reducible first | exact HB.out | apply below_alloc | apply pw_below_drewN | apply below_drew1) | exact HB.out)))).mono ?_); rintro e w50 ⟨rfl, hb⟩; refine ⟨_, rfl, ?_⟩; have n0_ := Aside0.mk (below_step (by repeat (first | (with_reducible first | exact HB.out | apply below_alloc | apply pw_below_drewN | apply below_drew1) | exact HB.out)) hb); clear HB; have HB := n0_; clear n0_; (try clear hb); (try clear hb2); (try clear hk); (try clear hi)) | ((with_reducible refine gate_callee (f := 17) rfl ?_); refine goesL_ (some 19) rfl rfl Tryd.func17 (by kernel_rfl) rfl #[.int .i64 a0] rfl (by (try simp only [List.map_toArray, List.map_cons, List.map_nil]); first | done | rfl | (simp only [List.length_drop, List.length_take]; rfl)) ?_; (with_reducible refine (fixed_Is.calls a0 true _ A33.out).mono ?_); rintro e w' ⟨rfl, ⟨nd, rfl⟩⟩; refine ⟨_, rfl, ?_⟩) | ((with_reducible refine gate_callee (f := 13) rfl ?_); refine goesL_ (some 29) rfl rfl Tryd.func13 (by kernel_rfl) rfl #[.string t155, .int .i64 64] rfl (by (try simp only [List.map_toArray, List.map_cons, List.map_nil]); first | done | rfl | (simp only [List.length_drop, List.length_take]; rfl)) ?_; (with_reducible refine (number_Value.calls k t155 64 t157 t158 _ A35.out).mono ?_); rintro e w51 ⟨rfl, hb⟩; refine ⟨_, rfl, ?_⟩; have n0_ := Aside0.mk (below_step (by repeat (first | (with_reducible first | exact HB.out | apply below_alloc | apply pw_below_drewN | apply below_drew1) | exact HB.out)) hb); clear HB; have HB := n0_; clear n0_; (try clear hb); (try clear hb2); (try clear hk); (try clear hi)))
          go_ret
          exact ⟨by first | rfl | (simp [errW_none, errW_some] <;> rfl) | (simp [*, errW_none, errW_some] <;> rfl), by repeat (first | (with_reducible first | exact HB.out | apply below_alloc | apply pw_below_drewN | apply below_drew1) | exact HB.out)⟩
      · replace c34 := Bool.eq_false_iff.mpr c34
        subst c34
        have H1 : (if t155.toList = ([] : List UInt8) then ((parterrelaw02_lives.f k).bind fun t161 => (some t161)) else (some false)) = some r := by rw [if_neg (show ¬ (false = true) by decide)] at H; exact H
        clear H
        have H := H1
        clear H1
        by_cases c52 : t155.toList = ([] : List UInt8)
        · rw [if_pos c52] at H
          have c52b0 : (t155.toList == ([] : List UInt8)) = true := beq_iff_eq.mpr c52
          have c52b1 : (t155.toList != ([] : List UInt8)) = false := bne_eq_false_iff_eq.mpr c52
          clear c52
          replace H := Option.bind_eq_some_iff.mp H
          obtain ⟨t161, A530, H⟩ := H
          replace H : (some t161) = some r := H
          have A53 := Aside0.mk A530
          clear A530
          obtain rfl := Option.some.inj H
          have hix31 : ∀ W : World, (Instr.index 33 (.agg #[.int .i64 1, .int .i64 64, .int .i64 1000]) (.int .i64 (wrap64 (Int.tmod (IntKind.u64.wrap (a1)) 3)))).run Tryd.prog W = .ok (.int .i64 64) W := (by intro W; have hj_ : (wrap64 (Int.tmod (IntKind.u64.wrap (a1)) 3)) = 1 := beq_iff_eq.1 (by assumption); rw [hj_]; simp [go_sem, Tryd.underlying33, Tryd.sizeOf3, Instr.index])
          go_enter Tryd.func6, Tryd.ntmps6
          go_wp2_with (first | ((with_reducible refine gate_callee (f := 15) rfl ?_); refine goesL_ (some 17) rfl rfl Tryd.func15 (by kernel_rfl) rfl #[.int .i64 a0, .int .i64 64] rfl (by (try simp only [List.map_toArray, List.map_cons, List.map_nil]); first | done | rfl | (simp only [List.length_drop, List.length_take]; rfl)) ?_; (with_reducible refine (number_Text.calls k a0 64 t155 _ A32.out (Tbl.tab0_stays HTB.out (by repeat (first | (with_reducible first | exact HB.out | apply below_alloc | apply pw_below_drewN | apply below_drew1) | exact HB.out)))).mono ?_); rintro e w54 ⟨rfl, hb⟩; refine ⟨_, rfl, ?_⟩; have n0_ := Aside0.mk (below_step (by repeat (first | (with_reducible first | exact HB.out | apply below_alloc | apply pw_below_drewN | apply below_drew1) | exact HB.out)) hb); clear HB; have HB := n0_; clear n0_; (try clear hb); (try clear hb2); (try clear hk); (try clear hi)) | ((with_reducible refine gate_callee (f := 17) rfl ?_); refine goesL_ (some 19) rfl rfl Tryd.func17 (by kernel_rfl) rfl #[.int .i64 a0] rfl (by (try simp only [List.map_toArray, List.map_cons, List.map_nil]); first | done | rfl | (simp only [List.length_drop, List.length_take]; rfl)) ?_; (with_reducible refine (fixed_Is.calls a0 false _ A33.out).mono ?_); rintro e w' ⟨rfl, ⟨nd, rfl⟩⟩; refine ⟨_, rfl, ?_⟩) | (go_at_call 10; (with_reducible refine (parterrelaw02_lives.calls k  t161 _ A53.out (Tbl.tab0_stays HTB.out (by repeat (first | (with_reducible first | exact HB.out | apply below_alloc | apply pw_below_drewN | apply below_drew1) | exact HB.out)))).mono ?_); rintro e w55 ⟨rfl, hb⟩; have n0_ := Aside0.mk (below_step (by repeat (first | (with_reducible first | exact HB.out | apply below_alloc | apply pw_below_drewN | apply below_drew1) | exact HB.out)) hb); clear HB; have HB := n0_; clear n0_; (try clear hb); (try clear hb2); (try clear hk); (try clear hi)))
          go_ret
          exact ⟨by first | rfl | (simp [errW_none, errW_some] <;> rfl) | (simp [*, errW_none, errW_some] <;> rfl), by repeat (first | (with_reducible first | exact HB.out | apply below_alloc | apply pw_below_drewN | apply below_drew1) | exact HB.out)⟩
        · rw [if_neg c52] at H
          have c52b0 : (t155.toList == ([] : List UInt8)) = false := beq_eq_false_iff_ne.mpr c52
          have c52b1 : (t155.toList != ([] : List UInt8)) = true := bne_iff_ne.mpr c52
          obtain rfl := Option.some.inj H
          have hix31 : ∀ W : World, (Instr.index 33 (.agg #[.int .i64 1, .int .i64 64, .int .i64 1000]) (.int .i64 (wrap64 (Int.tmod (IntKind.u64.wrap (a1)) 3)))).run Tryd.prog W = .ok (.int .i64 64) W := (by intro W; have hj_ : (wrap64 (Int.tmod (IntKind.u64.wrap (a1)) 3)) = 1 := beq_iff_eq.1 (by assumption); rw [hj_]; simp [go_sem, Tryd.underlying33, Tryd.sizeOf3, Instr.index])
          go_enter Tryd.func6, Tryd.ntmps6
          go_wp2_with (first | ((with_reducible refine gate_callee (f := 15) rfl ?_); refine goesL_ (some 17) rfl rfl Tryd.func15 (by kernel_rfl) rfl #[.int .i64 a0, .int .i64 64] rfl (by (try simp only [List.map_toArray, List.map_cons, List.map_nil]); first | done | rfl | (simp only [List.length_drop, List.length_take]; rfl)) ?_; (with_reducible refine (number_Text.calls k a0 64 t155 _ A32.out (Tbl.tab0_stays HTB.out (by repeat (first | (with_reducible first | exact HB.out | apply below_alloc | apply pw_below_drewN | apply below_drew1) | exact HB.out)))).mono ?_); rintro e w56 ⟨rfl, hb⟩; refine ⟨_, rfl, ?_⟩; have n0_ := Aside0.mk (below_step (by repeat (first | (with_reducible first | exact HB.out | apply below_alloc | apply pw_below_drewN | apply below_drew1) | exact HB.out)) hb); clear HB; have HB := n0_; clear n0_; (try clear hb); (try clear hb2); (try clear hk); (try clear hi)) | ((with_reducible refine gate_callee (f := 17) rfl ?_); refine goesL_ (some 19) rfl rfl Tryd.func17 (by kernel_rfl) rfl #[.int .i64 a0] rfl (by (try simp only [List.map_toArray, List.map_cons, List.map_nil]); first | done | rfl | (simp only [List.length_drop, List.length_take]; rfl)) ?_; (with_reducible refine (fixed_Is.calls a0 false _ A33.out).mono ?_); rintro e w' ⟨rfl, ⟨nd, rfl⟩⟩; refine ⟨_, rfl, ?_⟩))
          go_ret
          exact ⟨by first | rfl | (simp [errW_none, errW_some] <;> rfl) | (simp [*, errW_none, errW_some] <;> rfl), by repeat (first | (with_reducible first | exact HB.out | apply below_alloc | apply pw_below_drewN | apply below_drew1) | exact HB.out)⟩
    · rw [if_neg c30] at H
      have c30b0 : ((wrap64 (Int.tmod (IntKind.u64.wrap (a1)) 3)) == 1) = false := beq_eq_false_iff_ne.mpr c30
      have c30b1 : ((wrap64 (Int.tmod (IntKind.u64.wrap (a1)) 3)) != 1) = true := bne_iff_ne.mpr c30
      by_cases c57 : (wrap64 (Int.tmod (IntKind.u64.wrap (a1)) 3)) = 2
      · rw [if_pos c57] at H
        have c57b0 : ((wrap64 (Int.tmod (IntKind.u64.wrap (a1)) 3)) == 2) = true := beq_iff_eq.mpr c57
        have c57b1 : ((wrap64 (Int.tmod (IntKind.u64.wrap (a1)) 3)) != 2) = false := bne_eq_false_iff_eq.mpr c57
        clear c57
        replace H := Option.bind_eq_some_iff.mp H
        obtain ⟨t162, A590, H⟩ := H
        replace H : ((fixed_Is.f a0).bind fun t163 => (if t163 = true then ((number_Value.f k t162 1000).bind fun bt164 => (if bt164.2 = 0 then (if bt164.1 = a0 then ((number_Scan.f t162).bind fun t166 => (if t166 = (t162.size : Int) then ((parterrelaw02_lives.f k).bind fun t167 => (some t167)) else (some false))) else (some false)) else (some false))) else (if t162.toList = ([] : List UInt8) then ((parterrelaw02_lives.f k).bind fun t168 => (some t168)) else (some false)))) = some r := H
        have A59 := Aside0.mk A590
        clear A590
        replace H := Option.bind_eq_some_iff.mp H
        obtain ⟨t163, A600, H⟩ := H
        replace H : (if t163 = true then ((number_Value.f k t162 1000).bind fun bt164 => (if bt164.2 = 0 then (if bt164.1 = a0 then ((number_Scan.f t162).bind fun t166 => (if t166 = (t162.size : Int) then ((parterrelaw02_lives.f k).bind fun t167 => (some t167)) else (some false))) else (some false)) else (some false))) else (if t162.toList = ([] : List UInt8) then ((parterrelaw02_lives.f k).bind fun t168 => (some t168)) else (some false))) = some r := H
        have A60 := Aside0.mk A600
        clear A600
        by_cases c61 : t163 = true
        · subst c61
          have H1 : ((number_Value.f k t162 1000).bind fun bt164 => (if bt164.2 = 0 then (if bt164.1 = a0 then ((number_Scan.f t162).bind fun t166 => (if t166 = (t162.size : Int) then ((parterrelaw02_lives.f k).bind fun t167 => (some t167)) else (some false))) else (some false)) else (some false))) = some r := by rw [if_pos rfl] at H; exact H
          clear H
          have H := H1
          clear H1
          replace H := Option.bind_eq_some_iff.mp H
          obtain ⟨⟨t164, t165⟩, A620, H⟩ := H
          replace H : (if t165 = 0 then (if t164 = a0 then ((number_Scan.f t162).bind fun t166 => (if t166 = (t162.size : Int) then ((parterrelaw02_lives.f k).bind fun t167 => (some t167)) else (some false))) else (some false)) else (some false)) = some r := H
          have A62 := Aside0.mk A620
          clear A620
          by_cases c63 : t165 = 0
          · rw [if_pos c63] at H
            have c63b0 : (t165 == 0) = true := beq_iff_eq.mpr c63
            have c63b1 : (t165 != 0) = false := bne_eq_false_iff_eq.mpr c63
            clear c63
            by_cases c64 : t164 = a0
            · rw [if_pos c64] at H
              have c64b0 : (t164 == a0) = true := beq_iff_eq.mpr c64
              have c64b1 : (t164 != a0) = false := bne_eq_false_iff_eq.mpr c64
              clear c64
              replace H := Option.bind_eq_some_iff.mp H
              obtain ⟨t166, A650, H⟩ := H
              replace H : (if t166 = (t162.size : Int) then ((parterrelaw02_lives.f k).bind fun t167 => (some t167)) else (some false)) = some r := H
              have A65 := Aside0.mk A650
              clear A650
              by_cases c66 : t166 = (t162.size : Int)
              · rw [if_pos c66] at H
                have c66b0 : (t166 == (t162.size : Int)) = true := beq_iff_eq.mpr c66
                have c66b1 : (t166 != (t162.size : Int)) = false := bne_eq_false_iff_eq.mpr c66
                clear c66
                replace H := Option.bind_eq_some_iff.mp H
                obtain ⟨t167, A670, H⟩ := H
                replace H : (some t167) = some r := H
                have A67 := Aside0.mk A670
                clear A670
                obtain rfl := Option.some.inj H
                have hix58 : ∀ W : World, (Instr.index 33 (.agg #[.int .i64 1, .int .i64 64, .int .i64 1000]) (.int .i64 (wrap64 (Int.tmod (IntKind.u64.wrap (a1)) 3)))).run Tryd.prog W = .ok (.int .i64 1000) W := (by intro W; have hj_ : (wrap64 (Int.tmod (IntKind.u64.wrap (a1)) 3)) = 2 := beq_iff_eq.1 (by assumption); rw [hj_]; simp [go_sem, Tryd.underlying33, Tryd.sizeOf3, Instr.index])
                go_enter Tryd.func6, Tryd.ntmps6
                go_wp2_with (first | ((with_reducible refine gate_callee (f := 15) rfl ?_); refine goesL_ (some 17) rfl rfl Tryd.func15 (by kernel_rfl) rfl #[.int .i64 a0, .int .i64 1000] rfl (by (try simp only [List.map_toArray, List.map_cons, List.map_nil]); first | done | rfl | (simp only [List.length_drop, List.length_take]; rfl)) ?_; (with_reducible refine (number_Text.calls k a0 1000 t162 _ A59.out (Tbl.tab0_stays HTB.out (by repeat (first | (with_reducible first | exact HB.out | apply below_alloc | apply pw_below_drewN | apply below_drew1) | exact HB.out)))).mono ?_); rintro e w68 ⟨rfl, hb⟩; refine ⟨_, rfl, ?_⟩; have n0_ := Aside0.mk (below_step (by repeat (first | (with_reducible first | exact HB.out | apply below_alloc | apply pw_below_drewN | apply below_drew1) | exact HB.out)) hb); clear HB; have HB := n0_; clear n0_; (try clear hb); (try clear hb2); (try clear hk); (try clear hi)) | ((with_reducible refine gate_callee (f := 17) rfl ?_); refine goesL_ (some 19) rfl rfl Tryd.func17 (by kernel_rfl) rfl #[.int .i64 a0] rfl (by (try simp only [List.map_toArray, List.map_cons, List.map_nil]); first | done | rfl | (simp only [List.length_drop, List.length_take]; rfl)) ?_; (with_reducible refine (fixed_Is.calls a0 true _ A60.out).mono ?_); rintro e w' ⟨rfl, ⟨nd, rfl⟩⟩; refine ⟨_, rfl, ?_⟩) | ((with_reducible refine gate_callee (f := 13) rfl ?_); refine goesL_ (some 29) rfl rfl Tryd.func13 (by kernel_rfl) rfl #[.string t162, .int .i64 1000] rfl (by (try simp only [List.map_toArray, List.map_cons, List.map_nil]); first | done | rfl | (simp only [List.length_drop, List.length_take]; rfl)) ?_; (with_reducible refine (number_Value.calls k t162 1000 t164 t165 _ A62.out).mono ?_); rintro e w69 ⟨rfl, hb⟩; refine ⟨_, rfl, ?_⟩; have n0_ := Aside0.mk (below_step (by repeat (first | (with_reducible first | exact HB.out | apply below_alloc | apply pw_below_drewN | apply below_drew1) | exact HB.out)) hb); clear HB; have HB := n0_; clear n0_; (try clear hb); (try clear hb2); (try clear hk); (try clear hi)) | (go_at_call 11; (with_reducible refine (number_Scan.calls t162 t166 _ A65.out).mono ?_); rintro e w70 ⟨rfl, hb⟩; have n0_ := Aside0.mk (below_step (by repeat (first | (with_reducible first | exact HB.out | apply below_alloc | apply pw_below_drewN | apply below_drew1) | exact HB.out)) hb); clear HB; have HB := n0_; clear n0_; (try clear hb); (try clear hb2); (try clear hk); (try clear hi)) | (go_at_call 10; (with_reducible refine (parterrelaw02_lives.calls k  t167 _ A67.out (Tbl.tab0_stays HTB.out (by repeat (first | (with_reducible first | exact HB.out | apply below_alloc | apply pw_below_drewN | apply below_drew1) | exact HB.out)))).mono ?_); rintro e w71 ⟨rfl, hb⟩; have n0_ := Aside0.mk (below_step (by repeat (first | (with_reducible first | exact HB.out | apply below_alloc | apply pw_below_drewN | apply below_drew1) | exact HB.out)) hb); clear HB; have HB := n0_; clear n0_; (try clear hb); (try clear hb2); (try clear hk); (try clear hi)))
                go_ret
                exact ⟨by first | rfl | (simp [errW_none, errW_some] <;> rfl) | (simp [*, errW_none, errW_some] <;> rfl), by repeat (first | (with_reducible first | exact HB.out | apply below_alloc | apply pw_below_drewN | apply below_drew1) | exact HB.out)⟩
              · rw [if_neg c66] at H
                have c66b0 : (t166 == (t162.size : Int)) = false := beq_eq_false_iff_ne.mpr c66
                have c66b1 : (t166 != (t162.size : Int)) = true := bne_iff_ne.mpr c66
                obtain rfl := Option.some.inj H
                have hix58 : ∀ W : World, (Instr.index 33 (.agg #[.int .i64 1, .int .i64 64, .int .i64 1000]) (.int .i64 (wrap64 (Int.tmod (IntKind.u64.wrap (a1)) 3)))).run Tryd.prog W = .ok (.int .i64 1000) W := (by intro W; have hj_ : (wrap64 (Int.tmod (IntKind.u64.wrap (a1)) 3)) = 2 := beq_iff_eq.1 (by assumption); rw [hj_]; simp [go_sem, Tryd.underlying33, Tryd.sizeOf3, Instr.index])
                go_enter Tryd.func6, Tryd.ntmps6
                go_wp2_with (first | ((with_reducible refine gate_callee (f := 15) rfl ?_); refine goesL_ (some 17) rfl rfl Tryd.func15 (by kernel_rfl) rfl #[.int .i64 a0, .int .i64 1000] rfl (by (try simp only [List.map_toArray, List.map_cons, List.map_nil]); first | done | rfl | (simp only [List.length_drop, List.length_take]; rfl)) ?_; (with_reducible refine (number_Text.calls k a0 1000 t162 _ A59.out (Tbl.tab0_stays HTB.out (by repeat (first | (with_reducible first | exact HB.out | apply below_alloc | apply pw_below_drewN | apply below_drew1) | exact HB.out)))).mono ?_); rintro e w72 ⟨rfl, hb⟩; refine ⟨_, rfl, ?_⟩; have n0_ := Aside0.mk (below_step (by repeat (first | (with_reducible first | exact HB.out | apply below_alloc | apply pw_below_drewN | apply below_drew1) | exact HB.out)) hb); clear HB; have HB := n0_; clear n0_; (try clear hb); (try clear hb2); (try clear hk); (try clear hi)) | ((with_reducible refine gate_callee (f := 17) rfl ?_); refine goesL_ (some 19) rfl rfl Tryd.func17 (by kernel_rfl) rfl #[.int .i64 a0] rfl (by (try simp only [List.map_toArray, List.map_cons, List.map_nil]); first | done | rfl | (simp only [List.length_drop, List.length_take]; rfl)) ?_; (with_reducible refine (fixed_Is.calls a0 true _ A60.out).mono ?_); rintro e w' ⟨rfl, ⟨nd, rfl⟩⟩; refine ⟨_, rfl, ?_⟩) | ((with_reducible refine gate_callee (f := 13) rfl ?_); refine goesL_ (some 29) rfl rfl Tryd.func13 (by kernel_rfl) rfl #[.string t162, .int .i64 1000] rfl (by (try simp only [List.map_toArray, List.map_cons, List.map_nil]); first | done | rfl | (simp only [List.length_drop, List.length_take]; rfl)) ?_; (with_reducible refine (number_Value.calls k t162 1000 t164 t165 _ A62.out).mono ?_); rintro e w73 ⟨rfl, hb⟩; refine ⟨_, rfl, ?_⟩; have n0_ := Aside0.mk (below_step (by repeat (first | (with_reducible first | exact HB.out | apply below_alloc | apply pw_below_drewN | apply below_drew1) | exact HB.out)) hb); clear HB; have HB := n0_; clear n0_; (try clear hb); (try clear hb2); (try clear hk); (try clear hi)) | (go_at_call 11; (with_reducible refine (number_Scan.calls t162 t166 _ A65.out).mono ?_); rintro e w74 ⟨rfl, hb⟩; have n0_ := Aside0.mk (below_step (by repeat (first | (with_reducible first | exact HB.out | apply below_alloc | apply pw_below_drewN | apply below_drew1) | exact HB.out)) hb); clear HB; have HB := n0_; clear n0_; (try clear hb); (try clear hb2); (try clear hk); (try clear hi)))
                go_ret
                exact ⟨by first | rfl | (simp [errW_none, errW_some] <;> rfl) | (simp [*, errW_none, errW_some] <;> rfl), by repeat (first | (with_reducible first | exact HB.out | apply below_alloc | apply pw_below_drewN | apply below_drew1) | exact HB.out)⟩
            · rw [if_neg c64] at H
              have c64b0 : (t164 == a0) = false := beq_eq_false_iff_ne.mpr c64
              have c64b1 : (t164 != a0) = true := bne_iff_ne.mpr c64
              obtain rfl := Option.some.inj H
              have hix58 : ∀ W : World, (Instr.index 33 (.agg #[.int .i64 1, .int .i64 64, .int .i64 1000]) (.int .i64 (wrap64 (Int.tmod (IntKind.u64.wrap (a1)) 3)))).run Tryd.prog W = .ok (.int .i64 1000) W := (by intro W; have hj_ : (wrap64 (Int.tmod (IntKind.u64.wrap (a1)) 3)) = 2 := beq_iff_eq.1 (by assumption); rw [hj_]; simp [go_sem, Tryd.underlying33, Tryd.sizeOf3, Instr.index])
              go_enter Tryd.func6, Tryd.ntmps6
              go_wp2_with (first | ((with_reducible refine gate_callee (f := 15) rfl ?_); refine goesL_ (some 17) rfl rfl Tryd.func15 (by kernel_rfl) rfl #[.int .i64 a0, .int .i64 1000] rfl (by (try simp only [List.map_toArray, List.map_cons, List.map_nil]); first | done | rfl | (simp only [List.length_drop, List.length_take]; rfl)) ?_; (with_reducible refine (number_Text.calls k a0 1000 t162 _ A59.out (Tbl.tab0_stays HTB.out (by repeat (first | (with_reducible first | exact HB.out | apply below_alloc | apply pw_below_drewN | apply below_drew1) | exact HB.out)))).mono ?_); rintro e w75 ⟨rfl, hb⟩; refine ⟨_, rfl, ?_⟩; have n0_ := Aside0.mk (below_step (by repeat (first | (with_reducible first | exact HB.out | apply below_alloc | apply pw_below_drewN | apply below_drew1) | exact HB.out)) hb); clear HB; have HB := n0_; clear n0_; (try clear hb); (try clear hb2); (try clear hk); (try clear hi)) | ((with_reducible refine gate_callee (f := 17) rfl ?_); refine goesL_ (some 19) rfl rfl Tryd.func17 (by kernel_rfl) rfl #[.int .i64 a0] rfl (by (try simp only [List.map_toArray, List.map_cons, List.map_nil]); first | done | rfl | (simp only [List.length_drop, List.length_take]; rfl)) ?_; (with_reducible refine (fixed_Is.calls a0 true _ A60.out).mono ?_); rintro e w' ⟨rfl, ⟨nd, rfl⟩⟩; refine ⟨_, rfl, ?_⟩) | ((with_reducible refine gate_callee (f := 13) rfl ?_); refine goesL_ (some 29) rfl rfl Tryd.func13 (by kernel_rfl) rfl #[.string t162, .int .i64 1000] rfl (by (try simp only [List.map_toArray, List.map_cons, List.map_nil]); first | done | rfl | (simp only [List.length_drop, List.length_take]; rfl)) ?_; (with_reducible refine (number_Value.calls k t162 1000 t164 t165 _ A62.out).mono ?_); rintro e w76 ⟨rfl, hb⟩; refine ⟨_, rfl, ?_⟩; have n0_ := Aside0.mk (below_step (by repeat (first | (with_reducible first | exact HB.out | apply below_alloc | apply pw_below_drewN | apply below_drew1) | exact HB.out)) hb); clear HB; have HB := n0_; clear n0_; (try clear hb); (try clear hb2); (try clear hk); (try clear hi)))
              go_ret
              exact ⟨by first | rfl | (simp [errW_none, errW_some] <;> rfl) | (simp [*, errW_none, errW_some] <;> rfl), by repeat (first | (with_reducible first | exact HB.out | apply below_alloc | apply pw_below_drewN | apply below_drew1) | exact HB.out)⟩
          · rw [if_neg c63] at H
            have c63b0 : (t165 == 0) = false := beq_eq_false_iff_ne.mpr c63
            have c63b1 : (t165 != 0) = true := bne_iff_ne.mpr c63
            obtain rfl := Option.some.inj H
            have hix58 : ∀ W : World, (Instr.index 33 (.agg #[.int .i64 1, .int .i64 64, .int .i64 1000]) (.int .i64 (wrap64 (Int.tmod (IntKind.u64.wrap (a1)) 3)))).run Tryd.prog W = .ok (.int .i64 1000) W := (by intro W; have hj_ : (wrap64 (Int.tmod (IntKind.u64.wrap (a1)) 3)) = 2 := beq_iff_eq.1 (by assumption); rw [hj_]; simp [go_sem, Tryd.underlying33, Tryd.sizeOf3, Instr.index])
            go_enter Tryd.func6, Tryd.ntmps6
            go_wp2_with (first | ((with_reducible refine gate_callee (f := 15) rfl ?_); refine goesL_ (some 17) rfl rfl Tryd.func15 (by kernel_rfl) rfl #[.int .i64 a0, .int .i64 1000] rfl (by (try simp only [List.map_toArray, List.map_cons, List.map_nil]); first | done | rfl | (simp only [List.length_drop, List.length_take]; rfl)) ?_; (with_reducible refine (number_Text.calls k a0 1000 t162 _ A59.out (Tbl.tab0_stays HTB.out (by repeat (first | (with_reducible first | exact HB.out | apply below_alloc | apply pw_below_drewN | apply below_drew1) | exact HB.out)))).mono ?_); rintro e w77 ⟨rfl, hb⟩; refine ⟨_, rfl, ?_⟩; have n0_ := Aside0.mk (below_step (by repeat (first | (with_reducible first | exact HB.out | apply below_alloc | apply pw_below_drewN | apply below_drew1) | exact HB.out)) hb); clear HB; have HB := n0_; clear n0_; (try clear hb); (try clear hb2); (try clear hk); (try clear hi)) | ((with_reducible refine gate_callee (f := 17) rfl ?_); refine goesL_ (some 19) rfl rfl Tryd.func17 (by kernel_rfl) rfl #[.int .i64 a0] rfl (by (try simp only [List.map_toArray, List.map_cons, List.map_nil]); first | done | rfl | (simp only [List.length_drop, List.length_take]; rfl)) ?_; (with_reducible refine (fixed_Is.calls a0 true _ A60.out).mono ?_); rintro e w' ⟨rfl, ⟨nd, rfl⟩⟩; refine ⟨_, rfl, ?_⟩) | ((with_reducible refine gate_callee (f := 13) rfl ?_); refine goesL_ (some 29) rfl rfl Tryd.func13 (by kernel_rfl) rfl #[.string t162, .int .i64 1000] rfl (by (try simp only [List.map_toArray, List.map_cons, List.map_nil]); first | done | rfl | (simp only [List.length_drop, List.length_take]; rfl)) ?_; (with_reducible refine (number_Value.calls k t162 1000 t164 t165 _ A62.out).mono ?_); rintro e w78 ⟨rfl, hb⟩; refine ⟨_, rfl, ?_⟩; have n0_ := Aside0.mk (below_step (by repeat (first | (with_reducible first | exact HB.out | apply below_alloc | apply pw_below_drewN | apply below_drew1) | exact HB.out)) hb); clear HB; have HB := n0_; clear n0_; (try clear hb); (try clear hb2); (try clear hk); (try clear hi)))
            go_ret
            exact ⟨by first | rfl | (simp [errW_none, errW_some] <;> rfl) | (simp [*, errW_none, errW_some] <;> rfl), by repeat (first | (with_reducible first | exact HB.out | apply below_alloc | apply pw_below_drewN | apply below_drew1) | exact HB.out)⟩
        · replace c61 := Bool.eq_false_iff.mpr c61
          subst c61
          have H1 : (if t162.toList = ([] : List UInt8) then ((parterrelaw02_lives.f k).bind fun t168 => (some t168)) else (some false)) = some r := by rw [if_neg (show ¬ (false = true) by decide)] at H; exact H
          clear H
          have H := H1
          clear H1
          by_cases c79 : t162.toList = ([] : List UInt8)
          · rw [if_pos c79] at H
            have c79b0 : (t162.toList == ([] : List UInt8)) = true := beq_iff_eq.mpr c79
            have c79b1 : (t162.toList != ([] : List UInt8)) = false := bne_eq_false_iff_eq.mpr c79
            clear c79
            replace H := Option.bind_eq_some_iff.mp H
            obtain ⟨t168, A800, H⟩ := H
            replace H : (some t168) = some r := H
            have A80 := Aside0.mk A800
            clear A800
            obtain rfl := Option.some.inj H
            have hix58 : ∀ W : World, (Instr.index 33 (.agg #[.int .i64 1, .int .i64 64, .int .i64 1000]) (.int .i64 (wrap64 (Int.tmod (IntKind.u64.wrap (a1)) 3)))).run Tryd.prog W = .ok (.int .i64 1000) W := (by intro W; have hj_ : (wrap64 (Int.tmod (IntKind.u64.wrap (a1)) 3)) = 2 := beq_iff_eq.1 (by assumption); rw [hj_]; simp [go_sem, Tryd.underlying33, Tryd.sizeOf3, Instr.index])
            go_enter Tryd.func6, Tryd.ntmps6
            go_wp2_with (first | ((with_reducible refine gate_callee (f := 15) rfl ?_); refine goesL_ (some 17) rfl rfl Tryd.func15 (by kernel_rfl) rfl #[.int .i64 a0, .int .i64 1000] rfl (by (try simp only [List.map_toArray, List.map_cons, List.map_nil]); first | done | rfl | (simp only [List.length_drop, List.length_take]; rfl)) ?_; (with_reducible refine (number_Text.calls k a0 1000 t162 _ A59.out (Tbl.tab0_stays HTB.out (by repeat (first | (with_reducible first | exact HB.out | apply below_alloc | apply pw_below_drewN | apply below_drew1) | exact HB.out)))).mono ?_); rintro e w81 ⟨rfl, hb⟩; refine ⟨_, rfl, ?_⟩; have n0_ := Aside0.mk (below_step (by repeat (first | (with_reducible first | exact HB.out | apply below_alloc | apply pw_below_drewN | apply below_drew1) | exact HB.out)) hb); clear HB; have HB := n0_; clear n0_; (try clear hb); (try clear hb2); (try clear hk); (try clear hi)) | ((with_reducible refine gate_callee (f := 17) rfl ?_); refine goesL_ (some 19) rfl rfl Tryd.func17 (by kernel_rfl) rfl #[.int .i64 a0] rfl (by (try simp only [List.map_toArray, List.map_cons, List.map_nil]); first | done | rfl | (simp only [List.length_drop, List.length_take]; rfl)) ?_; (with_reducible refine (fixed_Is.calls a0 false _ A60.out).mono ?_); rintro e w' ⟨rfl, ⟨nd, rfl⟩⟩; refine ⟨_, rfl, ?_⟩) | (go_at_call 10; (with_reducible refine (parterrelaw02_lives.calls k  t168 _ A80.out (Tbl.tab0_stays HTB.out (by repeat (first | (with_reducible first | exact HB.out | apply below_alloc | apply pw_below_drewN | apply below_drew1) | exact HB.out)))).mono ?_); rintro e w82 ⟨rfl, hb⟩; have n0_ := Aside0.mk (below_step (by repeat (first | (with_reducible first | exact HB.out | apply below_alloc | apply pw_below_drewN | apply below_drew1) | exact HB.out)) hb); clear HB; have HB := n0_; clear n0_; (try clear hb); (try clear hb2); (try clear hk); (try clear hi)))
            go_ret
            exact ⟨by first | rfl | (simp [errW_none, errW_some] <;> rfl) | (simp [*, errW_none, errW_some] <;> rfl), by repeat (first | (with_reducible first | exact HB.out | apply below_alloc | apply pw_below_drewN | apply below_drew1) | exact HB.out)⟩
          · rw [if_neg c79] at H
            have c79b0 : (t162.toList == ([] : List UInt8)) = false := beq_eq_false_iff_ne.mpr c79
            have c79b1 : (t162.toList != ([] : List UInt8)) = true := bne_iff_ne.mpr c79
            obtain rfl := Option.some.inj H
            have hix58 : ∀ W : World, (Instr.index 33 (.agg #[.int .i64 1, .int .i64 64, .int .i64 1000]) (.int .i64 (wrap64 (Int.tmod (IntKind.u64.wrap (a1)) 3)))).run Tryd.prog W = .ok (.int .i64 1000) W := (by intro W; have hj_ : (wrap64 (Int.tmod (IntKind.u64.wrap (a1)) 3)) = 2 := beq_iff_eq.1 (by assumption); rw [hj_]; simp [go_sem, Tryd.underlying33, Tryd.sizeOf3, Instr.index])
            go_enter Tryd.func6, Tryd.ntmps6
            go_wp2_with (first | ((with_reducible refine gate_callee (f := 15) rfl ?_); refine goesL_ (some 17) rfl rfl Tryd.func15 (by kernel_rfl) rfl #[.int .i64 a0, .int .i64 1000] rfl (by (try simp only [List.map_toArray, List.map_cons, List.map_nil]); first | done | rfl | (simp only [List.length_drop, List.length_take]; rfl)) ?_; (with_reducible refine (number_Text.calls k a0 1000 t162 _ A59.out (Tbl.tab0_stays HTB.out (by repeat (first | (with_reducible first | exact HB.out | apply below_alloc | apply pw_below_drewN | apply below_drew1) | exact HB.out)))).mono ?_); rintro e w83 ⟨rfl, hb⟩; refine ⟨_, rfl, ?_⟩; have n0_ := Aside0.mk (below_step (by repeat (first | (with_reducible first | exact HB.out | apply below_alloc | apply pw_below_drewN | apply below_drew1) | exact HB.out)) hb); clear HB; have HB := n0_; clear n0_; (try clear hb); (try clear hb2); (try clear hk); (try clear hi)) | ((with_reducible refine gate_callee (f := 17) rfl ?_); refine goesL_ (some 19) rfl rfl Tryd.func17 (by kernel_rfl) rfl #[.int .i64 a0] rfl (by (try simp only [List.map_toArray, List.map_cons, List.map_nil]); first | done | rfl | (simp only [List.length_drop, List.length_take]; rfl)) ?_; (with_reducible refine (fixed_Is.calls a0 false _ A60.out).mono ?_); rintro e w' ⟨rfl, ⟨nd, rfl⟩⟩; refine ⟨_, rfl, ?_⟩))
            go_ret
            exact ⟨by first | rfl | (simp [errW_none, errW_some] <;> rfl) | (simp [*, errW_none, errW_some] <;> rfl), by repeat (first | (with_reducible first | exact HB.out | apply below_alloc | apply pw_below_drewN | apply below_drew1) | exact HB.out)⟩
      · rw [if_neg c57] at H
        exact absurd H (by simp)

/-- THE ONE PURE STATEMENT of parterrelaw02_NumberBack. -/
def parterrelaw02_NumberBack.Pure : Prop := ∀ (a0 : Int) (a1 : Int), gInt .i64 a0 → gInt .i64 a1 → ∃ k, parterrelaw02_NumberBack.f k a0 a1 = some true

end Go.Proofs.YtfccpnpocfjbcaaDoor.PNt
