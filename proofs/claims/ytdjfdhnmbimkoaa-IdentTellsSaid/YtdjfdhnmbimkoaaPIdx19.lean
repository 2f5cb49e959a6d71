-- Written by a program of this session (wip/p2) out of the translation; Lean checks it.
import Derived.Test.YtdjfdhnmbimkoaaPIdx0
import Derived.Test.YtdjfdhnmbimkoaaPIdx1
import Derived.Test.YtdjfdhnmbimkoaaPIdx16
namespace Go.Proofs.Ytdjfdhnmbimkoaa.PId
open Go.RowKit Go.Proofs.YtdjfdhnmbimkoaaW.PrintWords Go.Proofs.YtdjfdhnmbimkoaaW.PrintLast Go.Proofs.YtdjfdhnmbimkoaaW.PrintMore
attribute [local go_sem] max2_int min2_int max_two min_two max_three min_three max_four min_four   -- for this text's walks alone
set_option linter.unusedVariables false
set_option linter.unusedSimpArgs false
open Go.Proofs.Ytdjfdhnmbimkoaa.Opn Go.Proofs.Ytdjfdhnmbimkoaa.Giv

/-! ### ident_Custom: function 52 -/
def ident_Custom.f (a0 : ByteArray) : Option (Bool) := (ident_Lower.f a0).bind fun t136 => (if t136.toList = ([115, 112, 97, 110] : List UInt8) then (some false) else (if t136.toList = ([97, 117, 116, 111] : List UInt8) then (some false) else (if t136.toList = ([105, 110, 105, 116, 105, 97, 108] : List UInt8) then (some false) else (if t136.toList = ([105, 110, 104, 101, 114, 105, 116] : List UInt8) then (some false) else (if t136.toList = ([117, 110, 115, 101, 116] : List UInt8) then (some false) else (if t136.toList = ([100, 101, 102, 97, 117, 108, 116] : List UInt8) then (some false) else (if t136.toList = ([114, 101, 118, 101, 114, 116] : List UInt8) then (some false) else ((ident_Name.f a0).bind fun t137 => (some t137)))))))))
set_option maxHeartbeats 8000000 in
set_option maxRecDepth 100000 in
theorem ident_Custom.calls (a0 : ByteArray) (r : Bool) (w : World) (h : ident_Custom.f a0 = some r) :
    Calls Try.prog 52 #[.string a0] w fun e w' => e = .returned (.bool r) ∧ Below w.heap.size w w' := by
  have HB := Aside0.mk (Below.refl w.heap.size w)
  have H : ((ident_Lower.f a0).bind fun t136 => (if t136.toList = ([115, 112, 97, 110] : List UInt8) then (some false) else (if t136.toList = ([97, 117, 116, 111] : List UInt8) then (some false) else (if t136.toList = ([105, 110, 105, 116, 105, 97, 108] : List UInt8) then (some false) else (if t136.toList = ([105, 110, 104, 101, 114, 105, 116] : List UInt8) then (some false) else (if t136.toList = ([117, 110, 115, 101, 116] : List UInt8) then (some false) else (if t136.toList = ([100, 101, 102, 97, 117, 108, 116] : List UInt8) then (some false) else (if t136.toList = ([114, 101, 118, 101, 114, 116] : List UInt8) then (some false) else ((ident_Name.f a0).bind fun t137 => (some t137)))))))))) = some r := h
  clear h
  replace H := Option.bind_eq_some_iff.mp H
  obtain ⟨t136, A20, H⟩ := H
  replace H : (if t136.toList = ([115, 112, 97, 110] : List UInt8) then (some false) else (if t136.toList = ([97, 117, 116, 111] : List UInt8) then (some false) else (if t136.toList = ([105, 110, 105, 116, 105, 97, 108] : List UInt8) then (some false) else (if t136.toList = ([105, 110, 104, 101, 114, 105, 116] : List UInt8) then (some false) else (if t136.toList = ([117, 110, 115, 101, 116] : List UInt8) then (some false) else (if t136.toList = ([100, 101, 102, 97, 117, 108, 116] : List UInt8) then (some false) else (if t136.toList = ([114, 101, 118, 101, 114, 116] : List UInt8) then (some false) else ((ident_Name.f a0).bind fun t137 => (some t137))))))))) = some r := H
  have A2 := Aside0.mk A20
  clear A20
  by_cases c3 : t136.toList = ([115, 112, 97, 110] : List UInt8)
  · rw [if_pos c3] at H
    have c3b0 : (t136.toList == ([115, 112, 97, 110] : List UInt8)) = true := beq_iff_eq.mpr c3
    have c3b1 : (t136.toList != ([115, 112, 97, 110] : List UInt8)) = false := bne_eq_false_iff_eq.mpr c3
    clear c3
    obtain rfl := Option.some.inj H
    go_enter Try.func52, Try.ntmps52
    go_wp2_with (first | ((with_reducible refine gate_callee (f := 46) rfl ?_); refine goesL_ (some 4) rfl rfl Try.func46 (by kernel_rfl) rfl #[.string a0] rfl (by (try simp only [List.map_toArray, List.map_cons, List.map_nil]); first | done | rfl | (simp only [List.length_drop, List.length_take]; rfl)) ?_; (with_reducible refine (ident_Lower.calls a0 t136 _ A2.out).mono ?_); rintro e w4 ⟨rfl, hb⟩; refine ⟨_, rfl, ?_⟩; have n0_ := Aside0.mk (below_step (by repeat (first | (with_reducible first | exact HB.out | apply below_alloc | apply pw_below_drewN | apply below_drew1) | exact HB.out)) hb); clear HB; have HB := n0_; clear n0_; (try clear hb); (try clear hb2); (try clear hk); (try clear hi)))
    go_ret
    exact ⟨by first | rfl | (simp [errW_none, errW_some] <;> rfl) | (simp [*, errW_none, errW_some] <;> rfl), by repeat (first | (with_reducible first | exact HB.out | apply below_alloc | apply pw_below_drewN | apply below_drew1) | exact HB.out)⟩
  · rw [if_neg c3] at H
    have c3b0 : (t136.toList == ([115, 112, 97, 110] : List UInt8)) = false := beq_eq_false_iff_ne.mpr c3
    have c3b1 : (t136.toList != ([115, 112, 97, 110] : List UInt8)) = true := bne_iff_ne.mpr c3
    by_cases c5 : t136.toList = ([97, 117, 116, 111] : List UInt8)
    · rw [if_pos c5] at H
      have c5b0 : (t136.toList == ([97, 117, 116, 111] : List UInt8)) = true := beq_iff_eq.mpr c5
      have c5b1 : (t136.toList != ([97, 117, 116, 111] : List UInt8)) = false := bne_eq_false_iff_eq.mpr c5
      clear c5
      obtain rfl := Option.some.inj H
      go_enter Try.func52, Try.ntmps52
      go_wp2_with (first | ((with_reducible refine gate_callee (f := 46) rfl ?_); refine goesL_ (some 4) rfl rfl Try.func46 (by kernel_rfl) rfl #[.string a0] rfl (by (try simp only [List.map_toArray, List.map_cons, List.map_nil]); first | done | rfl | (simp only [List.length_drop, List.length_take]; rfl)) ?_; (with_reducible refine (ident_Lower.calls a0 t136 _ A2.out).mono ?_); rintro e w6 ⟨rfl, hb⟩; refine ⟨_, rfl, ?_⟩; have n0_ := Aside0.mk (below_step (by repeat (first | (with_reducible first | exact HB.out | apply below_alloc | apply pw_below_drewN | apply below_drew1) | exact HB.out)) hb); clear HB; have HB := n0_; clear n0_; (try clear hb); (try clear hb2); (try clear hk); (try clear hi)))
      go_ret
      exact ⟨by first | rfl | (simp [errW_none, errW_some] <;> rfl) | (simp [*, errW_none, errW_some] <;> rfl), by repeat (first | (with_reducible first | exact HB.out | apply below_alloc | apply pw_below_drewN | apply below_drew1) | exact HB.out)⟩
    · rw [if_neg c5] at H
      have c5b0 : (t136.toList == ([97, 117, 116, 111] : List UInt8)) = false := beq_eq_false_iff_ne.mpr c5
      have c5b1 : (t136.toList != ([97, 117, 116, 111] : List UInt8)) = true := bne_iff_ne.mpr c5
      by_cases c7 : t136.toList = ([105, 110, 105, 116, 105, 97, 108] : List UInt8)
      · rw [if_pos c7] at H
        have c7b0 : (t136.toList == ([105, 110, 105, 116, 105, 97, 108] : List UInt8)) = true := beq_iff_eq.mpr c7
        have c7b1 : (t136.toList != ([105, 110, 105, 116, 105, 97, 108] : List UInt8)) = false := bne_eq_false_iff_eq.mpr c7
        clear c7
        obtain rfl := Option.some.inj H
        go_enter Try.func52, Try.ntmps52
        go_wp2_with (first | ((with_reducible refine gate_callee (f := 46) rfl ?_); refine goesL_ (some 4) rfl rfl Try.func46 (by kernel_rfl) rfl #[.string a0] rfl (by (try simp only [List.map_toArray, List.map_cons, List.map_nil]); first | done | rfl | (simp only [List.length_drop, List.length_take]; rfl)) ?_; (with_reducible refine (ident_Lower.calls a0 t136 _ A2.out).mono ?_); rintro e w8 ⟨rfl, hb⟩; refine ⟨_, rfl, ?_⟩; have n0_ := Aside0.mk (below_step (by repeat (first | (with_reducible first | exact HB.out | apply below_alloc | apply pw_below_drewN | apply below_drew1) | exact HB.out)) hb); clear HB; have HB := n0_; clear n0_; (try clear hb); (try clear hb2); (try clear hk); (try clear hi)))
        go_ret
        exact ⟨by first | rfl | (simp [errW_none, errW_some] <;> rfl) | (simp [*, errW_none, errW_some] <;> rfl), by repeat (first | (with_reducible first | exact HB.out | apply below_alloc | apply pw_below_drewN | apply below_drew1) | exact HB.out)⟩
      · rw [if_neg c7] at H
        have c7b0 : (t136.toList == ([105, 110, 105, 116, 105, 97, 108] : List UInt8)) = false := beq_eq_false_iff_ne.mpr c7
        have c7b1 : (t136.toList != ([105, 110, 105, 116, 105, 97, 108] : List UInt8)) = true := bne_iff_ne.mpr c7
        by_cases c9 : t136.toList = ([105, 110, 104, 101, 114, 105, 116] : List UInt8)
        · rw [if_pos c9] at H
          have c9b0 : (t136.toList == ([105, 110, 104, 101, 114, 105, 116] : List UInt8)) = true := beq_iff_eq.mpr c9
          have c9b1 : (t136.toList != ([105, 110, 104, 101, 114, 105, 116] : List UInt8)) = false := bne_eq_false_iff_eq.mpr c9
          clear c9
          obtain rfl := Option.some.inj H
          go_enter Try.func52, Try.ntmps52
          go_wp2_with (first | ((with_reducible refine gate_callee (f := 46) rfl ?_); refine goesL_ (some 4) rfl rfl Try.func46 (by kernel_rfl) rfl #[.string a0] rfl (by (try simp only [List.map_toArray, List.map_cons, List.map_nil]); first | done | rfl | (simp only [List.length_drop, List.length_take]; rfl)) ?_; (with_reducible refine (ident_Lower.calls a0 t136 _ A2.out).mono ?_); rintro e w10 ⟨rfl, hb⟩; refine ⟨_, rfl, ?_⟩; have n0_ := Aside0.mk (below_step (by repeat (first | (with_reducible first | exact HB.out | apply below_alloc | apply pw_below_drewN | apply below_drew1) | exact HB.out)) hb); clear HB; have HB := n0_; clear n0_; (try clear hb); (try clear hb2); (try clear hk); (try clear hi)))
          go_ret
          exact ⟨by first | rfl | (simp [errW_none, errW_some] <;> rfl) | (simp [*, errW_none, errW_some] <;> rfl), by repeat (first | (with_reducible first | exact HB.out | apply below_alloc | apply pw_below_drewN | apply below_drew1) | exact HB.out)⟩
        · rw [if_neg c9] at H
          have c9b0 : (t136.toList == ([105, 110, 104, 101, 114, 105, 116] : List UInt8)) = false := beq_eq_false_iff_ne.mpr c9
          have c9b1 : (t136.toList != ([105, 110, 104, 101, 114, 105, 116] : List UInt8)) = true := bne_iff_ne.mpr c9
          by_cases c11 : t136.toList = ([117, 110, 115, 101, 116] : List UInt8)
          · rw [if_pos c11] at H
            have c11b0 : (t136.toList == ([117, 110, 115, 101, 116] : List UInt8)) = true := beq_iff_eq.mpr c11
            have c11b1 : (t136.toList != ([117, 110, 115, 101, 116] : List UInt8)) = false := bne_eq_false_iff_eq.mpr c11
            clear c11
            obtain rfl := Option.some.inj H
            go_enter Try.func52, Try.ntmps52
            go_wp2_with (first | ((with_reducible refine gate_callee (f := 46) rfl ?_); refine goesL_ (some 4) rfl rfl Try.func46 (by kernel_rfl) rfl #[.string a0] rfl (by (try simp only [List.map_toArray, List.map_cons, List.map_nil]); first | done | rfl | (simp only [List.length_drop, List.length_take]; rfl)) ?_; (with_reducible refine (ident_Lower.calls a0 t136 _ A2.out).mono ?_); rintro e w12 ⟨rfl, hb⟩; refine ⟨_, rfl, ?_⟩; have n0_ := Aside0.mk (below_step (by repeat (first | (with_reducible first | exact HB.out | apply below_alloc | apply pw_below_drewN | apply below_drew1) | exact HB.out)) hb); clear HB; have HB := n0_; clear n0_; (try clear hb); (try clear hb2); (try clear hk); (try clear hi)))
            go_ret
            exact ⟨by first | rfl | (simp [errW_none, errW_some] <;> rfl) | (simp [*, errW_none, errW_some] <;> rfl), by repeat (first | (with_reducible first | exact HB.out | apply below_alloc | apply pw_below_drewN | apply below_drew1) | exact HB.out)⟩
          · rw [if_neg c11] at H
            have c11b0 : (t136.toList == ([117, 110, 115, 101, 116] : List UInt8)) = false := beq_eq_false_iff_ne.mpr c11
            have c11b1 : (t136.toList != ([117, 110, 115, 101, 116] : List UInt8)) = true := bne_iff_ne.mpr c11
            by_cases c13 : t136.toList = ([100, 101, 102, 97, 117, 108, 116] : List UInt8)
            · rw [if_pos c13] at H
              have c13b0 : (t136.toList == ([100, 101, 102, 97, 117, 108, 116] : List UInt8)) = true := beq_iff_eq.mpr c13
              have c13b1 : (t136.toList != ([100, 101, 102, 97, 117, 108, 116] : List UInt8)) = false := bne_eq_false_iff_eq.mpr c13
              clear c13
              obtain rfl := Option.some.inj H
              go_enter Try.func52, Try.ntmps52
              go_wp2_with (first | ((with_reducible refine gate_callee (f := 46) rfl ?_); refine goesL_ (some 4) rfl rfl Try.func46 (by kernel_rfl) rfl #[.string a0] rfl (by (try simp only [List.map_toArray, List.map_cons, List.map_nil]); first | done | rfl | (simp only [List.length_drop, List.length_take]; rfl)) ?_; (with_reducible refine (ident_Lower.calls a0 t136 _ A2.out).mono ?_); rintro e w14 ⟨rfl, hb⟩; refine ⟨_, rfl, ?_⟩; have n0_ := Aside0.mk (below_step (by repeat (first | (with_reducible first | exact HB.out | apply below_alloc | apply pw_below_drewN | apply below_drew1) | exact HB.out)) hb); clear HB; have HB := n0_; clear n0_; (try clear hb); (try clear hb2); (try clear hk); (try clear hi)))
              go_ret
              exact ⟨by first | rfl | (simp [errW_none, errW_some] <;> rfl) | (simp [*, errW_none, errW_some] <;> rfl), by repeat (first | (with_reducible first | exact HB.out | apply below_alloc | apply pw_below_drewN | apply below_drew1) | exact HB.out)⟩
            · rw [if_neg c13] at H
              have c13b0 : (t136.toList == ([100, 101, 102, 97, 117, 108, 116] : List UInt8)) = false := beq_eq_false_iff_ne.mpr c13
              have c13b1 : (t136.toList != ([100, 101, 102, 97, 117, 108, 116] : List UInt8)) = true := bne_iff_ne.mpr c13
              by_cases c15 : t136.toList = ([114, 101, 118, 101, 114, 116] : List UInt8)
              · rw [if_pos c15] at H
                have c15b0 : (t136.toList == ([114, 101, 118, 101, 114, 116] : List UInt8)) = true := beq_iff_eq.mpr c15
                have c15b1 : (t136.toList != ([114, 101, 118, 101, 114, 116] : List UInt8)) = false := bne_eq_false_iff_eq.mpr c15
                clear c15
                obtain rfl := Option.some.inj H
                go_enter Try.func52, Try.ntmps52
                go_wp2_with (first | ((with_reducible refine gate_callee (f := 46) rfl ?_); refine goesL_ (some 4) rfl rfl Try.func46 (by kernel_rfl) rfl #[.string a0] rfl (by (try simp only [List.map_toArray, List.map_cons, List.map_nil]); first | done | rfl | (simp only [List.length_drop, List.length_take]; rfl)) ?_; (with_reducible refine (ident_Lower.calls a0 t136 _ A2.out).mono ?_); rintro e w16 ⟨rfl, hb⟩; refine ⟨_, rfl, ?_⟩; have n0_ := Aside0.mk (below_step (by repeat (first | (with_reducible first | exact HB.out | apply below_alloc | apply pw_below_drewN | apply below_drew1) | exact HB.out)) hb); clear HB; have HB := n0_; clear n0_; (try clear hb); (try clear hb2); (try clear hk); (try clear hi)))
                go_ret
                exact ⟨by first | rfl | (simp [errW_none, errW_some] <;> rfl) | (simp [*, errW_none, errW_some] <;> rfl), by repeat (first | (with_reducible first | exact HB.out | apply below_alloc | apply pw_below_drewN | apply below_drew1) | exact HB.out)⟩
              · rw [if_neg c15] at H
                have c15b0 : (t136.toList == ([114, 101, 118, 101, 114, 116] : List UInt8)) = false := beq_eq_false_iff_ne.mpr c15
                have c15b1 : (t136.toList != ([114, 101, 118, 101, 114, 116] : List UInt8)) = true := bne_iff_ne.mpr c15
                replace H := Option.bind_eq_some_iff.mp H
                obtain ⟨t137, A170, H⟩ := H
                replace H : (some t137) = some r := H
                have A17 := Aside0.mk A170
                clear A170
                obtain rfl := Option.some.inj H
                go_enter Try.func52, Try.ntmps52
                go_wp2_with (first | ((with_reducible refine gate_callee (f := 46) rfl ?_); refine goesL_ (some 4) rfl rfl Try.func46 (by kernel_rfl) rfl #[.string a0] rfl (by (try simp only [List.map_toArray, List.map_cons, List.map_nil]); first | done | rfl | (simp only [List.length_drop, List.length_take]; rfl)) ?_; (with_reducible refine (ident_Lower.calls a0 t136 _ A2.out).mono ?_); rintro e w18 ⟨rfl, hb⟩; refine ⟨_, rfl, ?_⟩; have n0_ := Aside0.mk (below_step (by repeat (first | (with_reducible first | exact HB.out | apply below_alloc | apply pw_below_drewN | apply below_drew1) | exact HB.out)) hb); clear HB; have HB := n0_; clear n0_; (try clear hb); (try clear hb2); (try clear hk); (try clear hi)) | ((with_reducible refine gate_callee (f := 50) rfl ?_); refine goesL_ (some 14) rfl rfl Try.func50 (by kernel_rfl) rfl #[.string a0] rfl (by (try simp only [List.map_toArray, List.map_cons, List.map_nil]); first | done | rfl | (simp only [List.length_drop, List.length_take]; rfl)) ?_; (with_reducible refine (ident_Name.calls a0 t137 _ A17.out).mono ?_); rintro e w' ⟨rfl, ⟨nd, rfl⟩⟩; refine ⟨_, rfl, ?_⟩))
                go_ret
                exact ⟨by first | rfl | (simp [errW_none, errW_some] <;> rfl) | (simp [*, errW_none, errW_some] <;> rfl), by repeat (first | (with_reducible first | exact HB.out | apply below_alloc | apply pw_below_drewN | apply below_drew1) | exact HB.out)⟩

end Go.Proofs.Ytdjfdhnmbimkoaa.PId
