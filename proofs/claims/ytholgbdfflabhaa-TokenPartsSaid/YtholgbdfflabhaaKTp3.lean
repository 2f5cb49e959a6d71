/- TokenPartsSaid, part 4 of 7: contracts of the program's functions, the words that they use, and the plain laws on what they compute. Conditions: none beyond what the statements say. -/
import Derived.Test.YtholgbdfflabhaaKTp0
import Derived.Test.YtholgbdfflabhaaKTp1
import Derived.BigRegion
import Derived.BigQuiet
import Derived.Deep.QuietTactic
import Derived.Test.YtholgbdfflabhaaKTp2
import Derived.WalkLawsBesides
import Derived.Tactics
import Derived.Tactics2
import Derived.Defers
import Derived.Recover
set_option linter.unusedVariables false
set_option linter.unusedSimpArgs false
section
namespace Go.Proofs.Ytholgbdfflabhaa.Giv
open Go.RowKit Go.Proofs.YtholgbdfflabhaaW.PrintWords Go.Proofs.YtholgbdfflabhaaW.PrintLast Go.Proofs.YtholgbdfflabhaaW.PrintMore Go.Proofs.Ytholgbdfflabhaa.PTk
open Go.Proofs.Ytholgbdfflabhaa.Opn Go.BigFrame
/-- Where the next word is wrong: the error. -/
def wordX (k : Nat) (s : ByteArray) (i : Nat) : Option Int := if i < s.size then ((number_Scan.f (s.extract i s.size)).bind fun n =>
    if n > 0 then (if i + n.toNat ≤ s.size then ((isF token_lexer_word_1.f s (i + n.toNat)).bind fun p => if p = true then none
      else ((begF k s (i + n.toNat)).bind fun b => if b = true then ((identF k s (i + n.toNat) []).bind fun t => if t.1.length ≤ 64 then none else if t.2 ≤ s.size then some 52 else none) else none)) else none)
    else ((begF k s i).bind fun b => if b = true then ((identF k s i []).bind fun t => if t.1.length ≤ 64 then none else if t.2 ≤ s.size then ((isF token_lexer_word_2.f s t.2).bind fun p => some 52) else none)
      else (if bt s (i : Nat) = 34 ∨ bt s (i : Nat) = 39 then ((quotE k s (i + 1) [] (bt s (i : Nat))).bind fun r => if r.isNone = true then some 30 else r.bind fun t => if t.1.length ≤ 8192 then none else if t.2 ≤ s.size then some 52 else none) else ((strings_IndexByte.f (⟨#[44, 47, 58, 59, 123, 125, 91, 93, 40, 41]⟩ : ByteArray) (bt s (i : Nat))).bind fun q => if q ≥ 0 then none else some 30)))) else none
theorem wordX.mono : ∀ s i k, LeO (wordX k s i) (wordX (k + 1) s i) := by
  intro s i k
  unfold wordX
  repeat' first
      | (with_reducible exact begF.mono _ _ _)
      | (with_reducible exact identF.mono _ _ _ _)
      | (with_reducible exact quotE.mono _ _ _ _ _)
      | (with_reducible exact LeO.refl _)
      | (with_reducible exact LeO.none _)
      | (with_reducible refine LeO.ite ?_ ?_)
      | (with_reducible refine LeO.bind ?_ (fun _ => ?_))
set_option maxHeartbeats 16000000 in
set_option maxRecDepth 100000 in
theorem word_dies (k : Nat) (s : ByteArray) (g i : Nat) (c : Int) (hs : s.size ≤ 140737488351232) (w : World) (h : Lx w g s i) (hf : wordX k s i = some c) :
    Calls Try.prog 9 #[.pointer (some ⟨g, 0, none⟩)] w fun e w' => e = .panicked [{ v := faultV i c, recovered := false }] ∧ Lk g w w' := by
  have hu := Try.underlying37
  have hut := Try.underlying9
  have huT := Try.underlying29
  have HS := Aside0.mk hs
  have HX := Aside0.mk h
  have HG := Aside0.mk (Array.getElem?_eq_some_iff.1 h).1
  clear h
  unfold wordX at hf
  by_cases hlt : i < s.size
  · rw [if_pos hlt] at hf
    obtain ⟨n, hn, hf⟩ := Option.bind_eq_some_iff.mp hf
    have A1 := Aside0.mk hn
    clear hn
    have q5 : ((i : Int) ≤ (s.size : Int)) = True := eq_true (by omega)
    have q0 : (0 ≤ (i : Int)) = True := eq_true (by omega)
    have q1 : ((i : Int) < (s.size : Int)) = True := eq_true (by omega)
    have q2 : decide ((i : Int) < (s.size : Int)) = true := decide_eq_true (by omega)
    have q3 : decide (i < s.size) = true := decide_eq_true hlt
    have q4 : (i < s.size) = True := eq_true hlt
    have hx : ∀ h : i < s.size, ((s[i].toNat : Nat) : Int) = bt s (i : Nat) := fun h => bt_at s (i : Int) (by simpa using h)
    have HLT := Aside0.mk hlt
    have HWI := Aside0.mk (show IntKind.i64.wrap (i : Int) = (i : Int) from wrapE i 0 (by omega))
    have HII := Aside0.mk (show i ≤ s.size by omega)
    by_cases h1 : n > 0
    · rw [if_pos h1] at hf
      have p1 : decide (n > 0) = true := decide_eq_true h1
      have p2 : decide (0 < n) = true := decide_eq_true h1
      by_cases h2 : i + n.toNat ≤ s.size
      · rw [if_pos h2] at hf
        obtain ⟨m, hm⟩ : ∃ m, i + n.toNat = m := ⟨_, rfl⟩
        have hwn : IntKind.i64.wrap ((i : Int) + n) = (m : Int) := by rw [i64_w]; unfold wrap64; omega
        have hwn2 : wrap64 ((i : Int) + n) = (m : Int) := by unfold wrap64; omega
        have q6 : ((i : Int) ≤ (m : Int)) = True := eq_true (by omega)
        have q7 : ((m : Int) ≤ (s.size : Int)) = True := eq_true (by omega)
        have q8 : (i ≤ m) = True := eq_true (by omega)
        have q9 : (m ≤ s.size) = True := eq_true (by omega)
        have HM := Aside0.mk (show m ≤ s.size by omega)
        rw [hm] at hf
        obtain ⟨p, hp, hf⟩ := Option.bind_eq_some_iff.mp hf
        have A2 := Aside0.mk hp
        clear hp
        cases p
        · rw [if_neg (by decide)] at hf
          obtain ⟨b, hb, hf⟩ := Option.bind_eq_some_iff.mp hf
          have A3 := Aside0.mk hb
          clear hb
          cases b
          · rw [if_neg (by decide)] at hf
            cases hf
          · rw [if_pos rfl] at hf
            obtain ⟨⟨l, e⟩, ht, hf⟩ := Option.bind_eq_some_iff.mp hf
            have A4 := Aside0.mk ht
            clear ht
            try dsimp only at hf
            by_cases h3 : l.length ≤ 64
            · rw [if_pos h3] at hf
              cases hf
            · rw [if_neg h3] at hf
              by_cases h5 : e ≤ s.size
              · rw [if_pos h5] at hf
                obtain rfl := Option.some.inj hf
                obtain ⟨x, hx⟩ : ∃ x : ByteArray, (⟨l.toArray⟩ : ByteArray) = x := ⟨_, rfl⟩
                have HTX := Aside0.mk hx
                have hxs : 64 < x.size := by
                  rw [← hx]
                  show 64 < l.toArray.size
                  rw [List.size_toArray]
                  omega
                have p8 : decide ((x.size : Int) > 64) = true := decide_eq_true (by omega)
                have p9 : decide (64 < (x.size : Int)) = true := decide_eq_true (by omega)
                clear hlt hs h1 h2 hm hf h3 h5 hx hxs
                go_enter Try.func9, Try.ntmps9
                go_wp2_with (first | ((with_reducible refine gate_dst (N := 2) rfl ?_); (try (refine gate_guard (by rfl) ?_; dsimp only)); refine box_event ?hg (N := 2) ?hd (cs := #[.int .i64 0, .int .i64 0, .string (⟨#[]⟩ : ByteArray), .string (⟨#[]⟩ : ByteArray)]) (t := 29) ?hr ?_; (case hd => rfl); (case hg => rfl); (case hr => first | (go_simp; done) | (go_simp; rfl)); intro b2 hg w2 hbox hb; have HG2 := Aside0.mk hg; have K2 := Aside0.mk (show Tk w2 b2 0 0 ⟨#[]⟩ ⟨#[]⟩ from hbox); have HX2 := Aside0.mk (Lx.below HX.out hb); have HK2 := Aside0.mk (Lk.of_below (g := g) hb); clear hg hbox hb HX; have HX := HX2; have HK := HK2; clear HX2 HK2; have hc0 := HX.out.s; have hc1 := HX.out.i; have hz1 := HX.out.fz) | ((with_reducible refine gate_dst (N := 3) rfl ?_); (try (refine gate_guard (by rfl) ?_; dsimp only)); refine box_event ?hg (N := 3) ?hd (cs := #[.int .i64 0, .int .i64 0, .string (⟨#[]⟩ : ByteArray), .string (⟨#[]⟩ : ByteArray)]) (t := 29) ?hr ?_; (case hd => rfl); (case hg => rfl); (case hr => first | (go_simp; done) | (go_simp; rfl)); intro b3 hg w3 hbox hb; have HG3 := Aside0.mk hg; have K2L := Aside0.mk (Tk.lt K2.out); have K3 := Aside0.mk (show Tk w3 b3 0 0 ⟨#[]⟩ ⟨#[]⟩ from hbox); have HX2 := Aside0.mk (Lx.below HX.out hb); have HK2 := Aside0.mk (Lk.call HK.out hb); have K22 := Aside0.mk (Tk.call K2.out hb); clear hg hbox hb HX HK K2; have HX := HX2; have HK := HK2; have K2 := K22; clear HX2 HK2 K22; have ht0 := K3.out.c0; have ht1 := K3.out.c1; have ht2 := K3.out.c2; have ht3 := K3.out.c3; have hf0 := K3.out.fz 0; have hf1 := K3.out.fz 1; have hf2 := K3.out.fz 2; have hf3 := K3.out.fz 3))
                have HS2 := Aside0.mk (show w.heap.size ≤ b2 by rw [HG2.out]; exact Nat.le_refl _)
                have HS3 := Aside0.mk (show b2 < b3 by rw [HG3.out]; exact K2L.out)
                have N1 := Aside0.mk (show g ≠ b2 by have := HS2.out; have := HG.out; omega)
                have N2 := Aside0.mk (show g ≠ b3 by have := HS2.out; have := HS3.out; have := HG.out; omega)
                have N3 := Aside0.mk (show b2 ≠ b3 by have := HS3.out; omega)
                have HB3 := Aside0.mk (show w.heap.size ≤ b3 by have := HS2.out; have := HS3.out; omega)
                have HX4 : Aside0 (Lx ((((w3.setCell ⟨b3, 0, none⟩ (.int .i64 0)).setCell ⟨b3, 1, none⟩ (.int .i64 (i : Int))).setCell ⟨b3, 2, none⟩ (.string (⟨#[]⟩ : ByteArray))).setCell ⟨b3, 3, none⟩ (.string (⟨#[]⟩ : ByteArray))) g s i) := ⟨Lx.far (Lx.far (Lx.far (Lx.far HX.out N2.out _ _) N2.out _ _) N2.out _ _) N2.out _ _⟩
                have HK4 : Aside0 (Lk g w ((((w3.setCell ⟨b3, 0, none⟩ (.int .i64 0)).setCell ⟨b3, 1, none⟩ (.int .i64 (i : Int))).setCell ⟨b3, 2, none⟩ (.string (⟨#[]⟩ : ByteArray))).setCell ⟨b3, 3, none⟩ (.string (⟨#[]⟩ : ByteArray)))) := ⟨Lk.setN (Lk.setN (Lk.setN (Lk.setN HK.out HB3.out _ _) HB3.out _ _) HB3.out _ _) HB3.out _ _⟩
                have K24 : Aside0 (Tk ((((w3.setCell ⟨b3, 0, none⟩ (.int .i64 0)).setCell ⟨b3, 1, none⟩ (.int .i64 (i : Int))).setCell ⟨b3, 2, none⟩ (.string (⟨#[]⟩ : ByteArray))).setCell ⟨b3, 3, none⟩ (.string (⟨#[]⟩ : ByteArray))) b2 0 0 ⟨#[]⟩ ⟨#[]⟩) := ⟨Tk.far (Tk.far (Tk.far (Tk.far K2.out N3.out _ _) N3.out _ _) N3.out _ _) N3.out _ _⟩
                have K34 : Aside0 (Tk ((((w3.setCell ⟨b3, 0, none⟩ (.int .i64 0)).setCell ⟨b3, 1, none⟩ (.int .i64 (i : Int))).setCell ⟨b3, 2, none⟩ (.string (⟨#[]⟩ : ByteArray))).setCell ⟨b3, 3, none⟩ (.string (⟨#[]⟩ : ByteArray))) b3 0 (i : Int) ⟨#[]⟩ ⟨#[]⟩) := ⟨Tk.set3 (Tk.set2 (Tk.set1 (Tk.set0 K3.out _) _) _) _⟩
                clear HX HK K2 K3 hc0 hc1 hz1 ht0 ht1 ht2 ht3 hf0 hf1 hf2 hf3
                generalize ((((w3.setCell ⟨b3, 0, none⟩ (.int .i64 0)).setCell ⟨b3, 1, none⟩ (.int .i64 (i : Int))).setCell ⟨b3, 2, none⟩ (.string (⟨#[]⟩ : ByteArray))).setCell ⟨b3, 3, none⟩ (.string (⟨#[]⟩ : ByteArray))) = w4 at HX4 HK4 K24 K34 ⊢
                have hc0 := HX4.out.s
                have hc1 := HX4.out.i
                go_wp2
                refine wp_region_quiet_lit (by kernel_rfl) (by kernel_rfl) ?_
                repeat (go_big_quiet_step (fail))
                refine wpQuiet_nil ?_
                intro _ hw'
                obtain ⟨nq, hw''⟩ := hw'
                subst hw''
                go_wp2
                have HX5 : Aside0 (Lx (w4.drewN nq).drew g s i) := ⟨HX4.out⟩
                have HK5 : Aside0 (Lk g w (w4.drewN nq).drew) := ⟨(HK4.out.drewN nq).drew⟩
                have K25 : Aside0 (Tk (w4.drewN nq).drew b2 0 0 ⟨#[]⟩ ⟨#[]⟩) := ⟨K24.out⟩
                have K35 : Aside0 (Tk (w4.drewN nq).drew b3 0 (i : Int) ⟨#[]⟩ ⟨#[]⟩) := ⟨K34.out⟩
                clear HX4 HK4 K24 K34 hc0 hc1
                refine start_ (n := 11) (S := (fun w' => w'.cell? ⟨g, 0, none⟩ = some (.string s) ∧ w'.cell? ⟨g, 1, none⟩ = some (.int .i64 (i : Int)))) (ds := []) #[false, false, false, false, false, false, false, false, false, false, false] (by kernel_rfl) rfl rfl ⟨HX5.out.s, HX5.out.i⟩ (fun hHeld => ?_)
                refine with_tabW lexer_word.tab4 lexer_word.bits4 (fun HT_ HW_ => ?_)
                generalize (w4.drewN nq).drew = w5 at HX5 HK5 K25 K35 hHeld ⊢
                refine pus_ 0 (some 21) #[true, false, false, false, false, false, false, false, false, false, false] rfl rfl HT_.out ?_
                refine pus_ 1 (some 22) #[true, true, false, false, false, false, false, false, false, false, false] rfl rfl HT_.out ?_
                refine pus_ 2 (some 23) #[true, true, true, false, false, false, false, false, false, false, false] rfl rfl HT_.out ?_
                refine tas_ 3 (some 24) #[true, true, true, true, false, false, false, false, false, false, false] rfl rfl HT_.out HW_.out hHeld ?_
                refine pus_ 4 (some 25) #[true, true, true, true, true, false, false, false, false, false, false] rfl rfl HT_.out ?_
                refine pus_ 5 (some 26) #[true, true, true, true, true, true, false, false, false, false, false] rfl rfl HT_.out ?_
                refine pus_ 6 (some 27) #[true, true, true, true, true, true, true, false, false, false, false] rfl rfl HT_.out ?_
                refine tas_ 7 (some 28) #[true, true, true, true, true, true, true, true, false, false, false] rfl rfl HT_.out HW_.out hHeld ?_
                refine pus_ 8 (some 29) #[true, true, true, true, true, true, true, true, true, false, false] rfl rfl HT_.out ?_
                refine one_ (i := 9) (N := (some 30)) #[true, true, true, true, true, true, true, true, true, true, false] rfl rfl (one_of HT_.out (by kernel_rfl)) (by decide) (fun K hK => ?_)
                refine goes_ Try.func14 (by kernel_rfl) rfl #[.string (s.extract i s.size)] (by rfl) rfl rfl goa_ ?_
                refine (number_Scan.calls _ n _ A1.out).mono ?_
                rintro e w6 ⟨rfl, hb⟩
                refine ⟨_, rfl, ?_⟩
                have HX := Aside0.mk (HX5.out.below hb)
                have HK := Aside0.mk (HK5.out.call hb)
                have K2 := Aside0.mk (K25.out.call hb)
                have K3 := Aside0.mk (K35.out.call hb)
                clear hb HX5 HK5 K25 K35
                refine hK.out _ _ ⟨HX.out.s, HX.out.i⟩ (fun hHeld => ?_)
                clear hK K
                refine norm_ (a' := ?_) ?_ ?_
                rotate_left
                ·show Act.put _ (some 30) _ = _
                 simp only [Act.put, List.setIfInBounds_toArray, List.set_cons_zero, List.set_cons_succ, i64_w, i32_w]
                 rfl
                refine pus_ 10 (some 6) #[true, true, true, true, true, true, true, true, true, true, true] rfl rfl HT_.out ?_
                refine done_ (done_of HT_.out (by kernel_rfl)) ?_
                clear hHeld HT_ HW_
                have hc0 := HX.out.s
                have hc1 := HX.out.i
                have hz1 := HX.out.fz
                have ht0 := K3.out.c0
                have ht1 := K3.out.c1
                have ht2 := K3.out.c2
                have ht3 := K3.out.c3
                have hf0 := K3.out.fz 0
                have hf1 := K3.out.fz 1
                have hf2 := K3.out.fz 2
                have hf3 := K3.out.fz 3
                have hne := N2.out
                have hne2 := N2.out.symm
                have hne3 := N1.out
                have hne4 := N1.out.symm
                have hne5 := N3.out
                have hne6 := N3.out.symm
                go_wp2
                go_region
                have HXn : Aside0 (Lx (((w6.setCell ⟨b3, 0, none⟩ (.int .i64 3)).setCell ⟨b3, 3, none⟩ (.string (s.extract i m))).drew) g s i) := ⟨(Lx.far (Lx.far HX.out N2.out _ _) N2.out _ _).drew⟩
                have HKn : Aside0 (Lk g w (((w6.setCell ⟨b3, 0, none⟩ (.int .i64 3)).setCell ⟨b3, 3, none⟩ (.string (s.extract i m))).drew)) := ⟨(Lk.setN (Lk.setN HK.out HB3.out _ _) HB3.out _ _).drew⟩
                have K2n : Aside0 (Tk (((w6.setCell ⟨b3, 0, none⟩ (.int .i64 3)).setCell ⟨b3, 3, none⟩ (.string (s.extract i m))).drew) b2 0 0 ⟨#[]⟩ ⟨#[]⟩) := ⟨(Tk.far (Tk.far K2.out N3.out _ _) N3.out _ _).drew⟩
                have K3n : Aside0 (Tk (((w6.setCell ⟨b3, 0, none⟩ (.int .i64 3)).setCell ⟨b3, 3, none⟩ (.string (s.extract i m))).drew) b3 3 (i : Int) ⟨#[]⟩ (s.extract i m)) := ⟨(Tk.set3 (Tk.set0 K3.out _) _).drew⟩
                clear HX HK K2 K3 hc0 hc1 hz1 ht0 ht1 ht2 ht3 hf0 hf1 hf2 hf3
                have HX := HXn
                have HK := HKn
                have K2 := K2n
                have K3 := K3n
                clear HXn HKn K2n K3n
                generalize (((w6.setCell ⟨b3, 0, none⟩ (.int .i64 3)).setCell ⟨b3, 3, none⟩ (.string (s.extract i m))).drew) = w7 at HX HK K2 K3 ⊢
                have hc0 := HX.out.s
                have hc1 := HX.out.i
                have hz1 := HX.out.fz
                have ht0 := K3.out.c0
                have ht1 := K3.out.c1
                have ht2 := K3.out.c2
                have ht3 := K3.out.c3
                have hf0 := K3.out.fz 0
                have hf1 := K3.out.fz 1
                have hf2 := K3.out.fz 2
                have hf3 := K3.out.fz 3
                have hr0 := K2.out.c0
                have hr1 := K2.out.c1
                have hr2 := K2.out.c2
                have hr3 := K2.out.c3
                have hs0 := K2.out.fz 0
                have hs1 := K2.out.fz 1
                have hs2 := K2.out.fz 2
                have hs3 := K2.out.fz 3
                have HWM := Aside0.mk (show IntKind.i64.wrap (m : Int) = (m : Int) from wrapE m 0 (by have := HM.out; have := HS.out; omega))
                go_wp2_with (first | (go_at_call 15; with_reducible refine (is_pct0 s g m m HS.out HWM.out _ _ ?lx A2.out).mono ?_; (case lx => exact (by repeat (first | (with_reducible first | exact HX.out | apply Lx.drewN | apply Lx.set)))); rintro e wi ⟨rfl, ⟨ni, rfl⟩⟩) | (go_at_call 17; with_reducible refine (begins_calls k s g m HS.out HM.out _ _ ?lx A3.out).mono ?_; (case lx => exact (by repeat (first | (with_reducible first | exact HX.out | apply Lx.drewN | apply Lx.drew | apply Lx.set | apply lx_far N2.out)))); rintro e wb ⟨rfl, hb⟩; have HXn := Aside0.mk (Lx.below (by repeat (first | (with_reducible first | exact HX.out | apply Lx.drewN | apply Lx.drew | apply Lx.set | apply lx_far N2.out))) hb); have HKn := Aside0.mk (Lk.call (by repeat (first | (with_reducible first | exact HK.out | apply Lk.drewN | apply Lk.drew | apply Lk.set | apply lk_setN HB3.out))) hb); have K2n := Aside0.mk (Tk.call (by repeat (first | (with_reducible first | exact K2.out | apply Tk.drewN | apply Tk.drew | apply tk_far N1.out.symm | apply tk_far N3.out))) hb); have K3n := Aside0.mk (Tk.call (by repeat (first | (with_reducible first | exact K3.out | apply Tk.drewN | apply Tk.drew | apply tk_far N2.out.symm))) hb); clear hb; clear HX HK K2 K3; have HX := HXn; have HK := HKn; have K2 := K2n; have K3 := K3n; clear HXn HKn K2n K3n; have hc0 := HX.out.s; have hc1 := HX.out.i; have hz1 := HX.out.fz; have ht0 := K3.out.c0; have ht1 := K3.out.c1; have ht2 := K3.out.c2; have ht3 := K3.out.c3; have hf0 := K3.out.fz 0; have hf1 := K3.out.fz 1; have hf2 := K3.out.fz 2; have hf3 := K3.out.fz 3; have hr0 := K2.out.c0; have hr1 := K2.out.c1; have hr2 := K2.out.c2; have hr3 := K2.out.c3; have hs0 := K2.out.fz 0; have hs1 := K2.out.fz 1; have hs2 := K2.out.fz 2; have hs3 := K2.out.fz 3) | (go_at_call 18; with_reducible refine (ident_calls k s g m _ _ HS.out HM.out _ ?lx A4.out).mono ?_; (case lx => exact (by repeat (first | (with_reducible first | exact HX.out | apply Lx.drewN | apply Lx.drew | apply Lx.set | apply lx_far N2.out)))); rintro e wd ⟨rfl, hx, hk⟩; rw [HTX.out]; have HXn := Aside0.mk hx; have HKn := Aside0.mk (Lk.trans (by repeat (first | (with_reducible first | exact HK.out | apply Lk.drewN | apply Lk.drew | apply Lk.set | apply lk_setN HB3.out))) hk); have K2n := Aside0.mk (Tk.lk (by repeat (first | (with_reducible first | exact K2.out | apply Tk.drewN | apply Tk.drew | apply tk_far N1.out.symm | apply tk_far N3.out))) hk N1.out.symm); have K3n := Aside0.mk (Tk.lk (by repeat (first | (with_reducible first | exact K3.out | apply Tk.drewN | apply Tk.drew | apply tk_far N2.out.symm))) hk N2.out.symm); clear hx hk; clear HX HK K2 K3; have HX := HXn; have HK := HKn; have K2 := K2n; have K3 := K3n; clear HXn HKn K2n K3n; have hc0 := HX.out.s; have hc1 := HX.out.i; have hz1 := HX.out.fz; have ht0 := K3.out.c0; have ht1 := K3.out.c1; have ht2 := K3.out.c2; have ht3 := K3.out.c3; have hf0 := K3.out.fz 0; have hf1 := K3.out.fz 1; have hf2 := K3.out.fz 2; have hf3 := K3.out.fz 3; have hr0 := K2.out.c0; have hr1 := K2.out.c1; have hr2 := K2.out.c2; have hr3 := K2.out.c3; have hs0 := K2.out.fz 0; have hs1 := K2.out.fz 1; have hs2 := K2.out.fz 2; have hs3 := K2.out.fz 3) | (go_at_call 10; with_reducible refine (fail_calls g _ 52 _).mono ?_; rintro e wf ⟨rfl, rfl⟩))
                exact ⟨rfl, rfl, (by repeat (first | (with_reducible first | exact HK.out | apply Lk.drewN | apply Lk.drew | apply Lk.set | apply lk_setN HB3.out)))⟩
              · rw [if_neg h5] at hf
                cases hf
        · rw [if_pos rfl] at hf
          cases hf
      · rw [if_neg h2] at hf
        cases hf
    · rw [if_neg h1] at hf
      have p1 : decide (n > 0) = false := decide_eq_false h1
      have p2 : decide (0 < n) = false := decide_eq_false h1
      clear hlt hs h1
      obtain ⟨b, hb, hf⟩ := Option.bind_eq_some_iff.mp hf
      have A2 := Aside0.mk hb
      clear hb
      cases b
      · rw [if_neg (by decide)] at hf
        by_cases h3 : bt s (i : Nat) = 34 ∨ bt s (i : Nat) = 39
        · rw [if_pos h3] at hf
          obtain ⟨tq, ht, hf⟩ := Option.bind_eq_some_iff.mp hf
          have A4 := Aside0.mk ht
          clear ht
          cases tq with
          | none =>
            have hf2 : (some 30 : Option Int) = some c := by simpa using hf
            clear hf
            have hf := hf2
            clear hf2
            obtain rfl := Option.some.inj hf
            clear hf
            by_cases h34 : bt s (i : Nat) = 34
            · have p3 : (bt s (i : Nat) == 34) = true := beq_iff_eq.mpr h34
              clear h3 h34
              go_enter Try.func9, Try.ntmps9
              go_wp2_with (first | ((with_reducible refine gate_dst (N := 2) rfl ?_); (try (refine gate_guard (by rfl) ?_; dsimp only)); refine box_event ?hg (N := 2) ?hd (cs := #[.int .i64 0, .int .i64 0, .string (⟨#[]⟩ : ByteArray), .string (⟨#[]⟩ : ByteArray)]) (t := 29) ?hr ?_; (case hd => rfl); (case hg => rfl); (case hr => first | (go_simp; done) | (go_simp; rfl)); intro b2 hg w2 hbox hb; have HG2 := Aside0.mk hg; have K2 := Aside0.mk (show Tk w2 b2 0 0 ⟨#[]⟩ ⟨#[]⟩ from hbox); have HX2 := Aside0.mk (Lx.below HX.out hb); have HK2 := Aside0.mk (Lk.of_below (g := g) hb); clear hg hbox hb HX; have HX := HX2; have HK := HK2; clear HX2 HK2; have hc0 := HX.out.s; have hc1 := HX.out.i; have hz1 := HX.out.fz) | ((with_reducible refine gate_dst (N := 3) rfl ?_); (try (refine gate_guard (by rfl) ?_; dsimp only)); refine box_event ?hg (N := 3) ?hd (cs := #[.int .i64 0, .int .i64 0, .string (⟨#[]⟩ : ByteArray), .string (⟨#[]⟩ : ByteArray)]) (t := 29) ?hr ?_; (case hd => rfl); (case hg => rfl); (case hr => first | (go_simp; done) | (go_simp; rfl)); intro b3 hg w3 hbox hb; have HG3 := Aside0.mk hg; have K2L := Aside0.mk (Tk.lt K2.out); have K3 := Aside0.mk (show Tk w3 b3 0 0 ⟨#[]⟩ ⟨#[]⟩ from hbox); have HX2 := Aside0.mk (Lx.below HX.out hb); have HK2 := Aside0.mk (Lk.call HK.out hb); have K22 := Aside0.mk (Tk.call K2.out hb); clear hg hbox hb HX HK K2; have HX := HX2; have HK := HK2; have K2 := K22; clear HX2 HK2 K22; have ht0 := K3.out.c0; have ht1 := K3.out.c1; have ht2 := K3.out.c2; have ht3 := K3.out.c3; have hf0 := K3.out.fz 0; have hf1 := K3.out.fz 1; have hf2 := K3.out.fz 2; have hf3 := K3.out.fz 3))
              have HS2 := Aside0.mk (show w.heap.size ≤ b2 by rw [HG2.out]; exact Nat.le_refl _)
              have HS3 := Aside0.mk (show b2 < b3 by rw [HG3.out]; exact K2L.out)
              have N1 := Aside0.mk (show g ≠ b2 by have := HS2.out; have := HG.out; omega)
              have N2 := Aside0.mk (show g ≠ b3 by have := HS2.out; have := HS3.out; have := HG.out; omega)
              have N3 := Aside0.mk (show b2 ≠ b3 by have := HS3.out; omega)
              have HB3 := Aside0.mk (show w.heap.size ≤ b3 by have := HS2.out; have := HS3.out; omega)
              have HX4 : Aside0 (Lx ((((w3.setCell ⟨b3, 0, none⟩ (.int .i64 0)).setCell ⟨b3, 1, none⟩ (.int .i64 (i : Int))).setCell ⟨b3, 2, none⟩ (.string (⟨#[]⟩ : ByteArray))).setCell ⟨b3, 3, none⟩ (.string (⟨#[]⟩ : ByteArray))) g s i) := ⟨Lx.far (Lx.far (Lx.far (Lx.far HX.out N2.out _ _) N2.out _ _) N2.out _ _) N2.out _ _⟩
              have HK4 : Aside0 (Lk g w ((((w3.setCell ⟨b3, 0, none⟩ (.int .i64 0)).setCell ⟨b3, 1, none⟩ (.int .i64 (i : Int))).setCell ⟨b3, 2, none⟩ (.string (⟨#[]⟩ : ByteArray))).setCell ⟨b3, 3, none⟩ (.string (⟨#[]⟩ : ByteArray)))) := ⟨Lk.setN (Lk.setN (Lk.setN (Lk.setN HK.out HB3.out _ _) HB3.out _ _) HB3.out _ _) HB3.out _ _⟩
              have K24 : Aside0 (Tk ((((w3.setCell ⟨b3, 0, none⟩ (.int .i64 0)).setCell ⟨b3, 1, none⟩ (.int .i64 (i : Int))).setCell ⟨b3, 2, none⟩ (.string (⟨#[]⟩ : ByteArray))).setCell ⟨b3, 3, none⟩ (.string (⟨#[]⟩ : ByteArray))) b2 0 0 ⟨#[]⟩ ⟨#[]⟩) := ⟨Tk.far (Tk.far (Tk.far (Tk.far K2.out N3.out _ _) N3.out _ _) N3.out _ _) N3.out _ _⟩
              have K34 : Aside0 (Tk ((((w3.setCell ⟨b3, 0, none⟩ (.int .i64 0)).setCell ⟨b3, 1, none⟩ (.int .i64 (i : Int))).setCell ⟨b3, 2, none⟩ (.string (⟨#[]⟩ : ByteArray))).setCell ⟨b3, 3, none⟩ (.string (⟨#[]⟩ : ByteArray))) b3 0 (i : Int) ⟨#[]⟩ ⟨#[]⟩) := ⟨Tk.set3 (Tk.set2 (Tk.set1 (Tk.set0 K3.out _) _) _) _⟩
              clear HX HK K2 K3 hc0 hc1 hz1 ht0 ht1 ht2 ht3 hf0 hf1 hf2 hf3
              generalize ((((w3.setCell ⟨b3, 0, none⟩ (.int .i64 0)).setCell ⟨b3, 1, none⟩ (.int .i64 (i : Int))).setCell ⟨b3, 2, none⟩ (.string (⟨#[]⟩ : ByteArray))).setCell ⟨b3, 3, none⟩ (.string (⟨#[]⟩ : ByteArray))) = w4 at HX4 HK4 K24 K34 ⊢
              have hc0 := HX4.out.s
              have hc1 := HX4.out.i
              go_wp2
              refine wp_region_quiet_lit (by kernel_rfl) (by kernel_rfl) ?_
              repeat (go_big_quiet_step (fail))
              refine wpQuiet_nil ?_
              intro _ hw'
              obtain ⟨nq, hw''⟩ := hw'
              subst hw''
              go_wp2
              have HX5 : Aside0 (Lx (w4.drewN nq).drew g s i) := ⟨HX4.out⟩
              have HK5 : Aside0 (Lk g w (w4.drewN nq).drew) := ⟨(HK4.out.drewN nq).drew⟩
              have K25 : Aside0 (Tk (w4.drewN nq).drew b2 0 0 ⟨#[]⟩ ⟨#[]⟩) := ⟨K24.out⟩
              have K35 : Aside0 (Tk (w4.drewN nq).drew b3 0 (i : Int) ⟨#[]⟩ ⟨#[]⟩) := ⟨K34.out⟩
              clear HX4 HK4 K24 K34 hc0 hc1
              refine start_ (n := 11) (S := (fun w' => w'.cell? ⟨g, 0, none⟩ = some (.string s) ∧ w'.cell? ⟨g, 1, none⟩ = some (.int .i64 (i : Int)))) (ds := []) #[false, false, false, false, false, false, false, false, false, false, false] (by kernel_rfl) rfl rfl ⟨HX5.out.s, HX5.out.i⟩ (fun hHeld => ?_)
              refine with_tabW lexer_word.tab4 lexer_word.bits4 (fun HT_ HW_ => ?_)
              generalize (w4.drewN nq).drew = w5 at HX5 HK5 K25 K35 hHeld ⊢
              refine pus_ 0 (some 21) #[true, false, false, false, false, false, false, false, false, false, false] rfl rfl HT_.out ?_
              refine pus_ 1 (some 22) #[true, true, false, false, false, false, false, false, false, false, false] rfl rfl HT_.out ?_
              refine pus_ 2 (some 23) #[true, true, true, false, false, false, false, false, false, false, false] rfl rfl HT_.out ?_
              refine tas_ 3 (some 24) #[true, true, true, true, false, false, false, false, false, false, false] rfl rfl HT_.out HW_.out hHeld ?_
              refine pus_ 4 (some 25) #[true, true, true, true, true, false, false, false, false, false, false] rfl rfl HT_.out ?_
              refine pus_ 5 (some 26) #[true, true, true, true, true, true, false, false, false, false, false] rfl rfl HT_.out ?_
              refine pus_ 6 (some 27) #[true, true, true, true, true, true, true, false, false, false, false] rfl rfl HT_.out ?_
              refine tas_ 7 (some 28) #[true, true, true, true, true, true, true, true, false, false, false] rfl rfl HT_.out HW_.out hHeld ?_
              refine pus_ 8 (some 29) #[true, true, true, true, true, true, true, true, true, false, false] rfl rfl HT_.out ?_
              refine one_ (i := 9) (N := (some 30)) #[true, true, true, true, true, true, true, true, true, true, false] rfl rfl (one_of HT_.out (by kernel_rfl)) (by decide) (fun K hK => ?_)
              refine goes_ Try.func14 (by kernel_rfl) rfl #[.string (s.extract i s.size)] (by rfl) rfl rfl goa_ ?_
              refine (number_Scan.calls _ n _ A1.out).mono ?_
              rintro e w6 ⟨rfl, hb⟩
              refine ⟨_, rfl, ?_⟩
              have HX := Aside0.mk (HX5.out.below hb)
              have HK := Aside0.mk (HK5.out.call hb)
              have K2 := Aside0.mk (K25.out.call hb)
              have K3 := Aside0.mk (K35.out.call hb)
              clear hb HX5 HK5 K25 K35
              refine hK.out _ _ ⟨HX.out.s, HX.out.i⟩ (fun hHeld => ?_)
              clear hK K
              refine norm_ (a' := ?_) ?_ ?_
              rotate_left
              ·show Act.put _ (some 30) _ = _
               simp only [Act.put, List.setIfInBounds_toArray, List.set_cons_zero, List.set_cons_succ, i64_w, i32_w]
               rfl
              refine pus_ 10 (some 6) #[true, true, true, true, true, true, true, true, true, true, true] rfl rfl HT_.out ?_
              refine done_ (done_of HT_.out (by kernel_rfl)) ?_
              clear hHeld HT_ HW_
              have hc0 := HX.out.s
              have hc1 := HX.out.i
              have hz1 := HX.out.fz
              have ht0 := K3.out.c0
              have ht1 := K3.out.c1
              have ht2 := K3.out.c2
              have ht3 := K3.out.c3
              have hf0 := K3.out.fz 0
              have hf1 := K3.out.fz 1
              have hf2 := K3.out.fz 2
              have hf3 := K3.out.fz 3
              have hne := N2.out
              have hne2 := N2.out.symm
              have hne3 := N1.out
              have hne4 := N1.out.symm
              have hne5 := N3.out
              have hne6 := N3.out.symm
              go_wp2_with (first | (go_at_call 17; with_reducible refine (begins_calls k s g i HS.out HII.out _ _ ?lx A2.out).mono ?_; (case lx => exact (by repeat (first | (with_reducible first | exact HX.out | apply Lx.drewN | apply Lx.drew | apply Lx.set | apply lx_far N2.out)))); rintro e wb ⟨rfl, hb⟩; have HXn := Aside0.mk (Lx.below (by repeat (first | (with_reducible first | exact HX.out | apply Lx.drewN | apply Lx.drew | apply Lx.set | apply lx_far N2.out))) hb); have HKn := Aside0.mk (Lk.call (by repeat (first | (with_reducible first | exact HK.out | apply Lk.drewN | apply Lk.drew | apply Lk.set | apply lk_setN HB3.out))) hb); have K2n := Aside0.mk (Tk.call (by repeat (first | (with_reducible first | exact K2.out | apply Tk.drewN | apply Tk.drew | apply tk_far N1.out.symm | apply tk_far N3.out))) hb); have K3n := Aside0.mk (Tk.call (by repeat (first | (with_reducible first | exact K3.out | apply Tk.drewN | apply Tk.drew | apply tk_far N2.out.symm))) hb); clear hb; clear HX HK K2 K3; have HX := HXn; have HK := HKn; have K2 := K2n; have K3 := K3n; clear HXn HKn K2n K3n; have hc0 := HX.out.s; have hc1 := HX.out.i; have hz1 := HX.out.fz; have ht0 := K3.out.c0; have ht1 := K3.out.c1; have ht2 := K3.out.c2; have ht3 := K3.out.c3; have hf0 := K3.out.fz 0; have hf1 := K3.out.fz 1; have hf2 := K3.out.fz 2; have hf3 := K3.out.fz 3; have hr0 := K2.out.c0; have hr1 := K2.out.c1; have hr2 := K2.out.c2; have hr3 := K2.out.c3; have hs0 := K2.out.fz 0; have hs1 := K2.out.fz 1; have hs2 := K2.out.fz 2; have hs3 := K2.out.fz 3) | (go_at_call 20; with_reducible refine (quotedE_calls k s g i _ HS.out HLT.out _ ?lx A4.out).mono ?_; (case lx => exact (by repeat (first | (with_reducible first | exact HX.out | apply Lx.drewN | apply Lx.drew | apply Lx.set | apply lx_far N2.out)))); intro e wd hqr; obtain ⟨rfl, hk⟩ := hqr.dead; have HKn := Aside0.mk (Lk.trans (by repeat (first | (with_reducible first | exact HK.out | apply Lk.drewN | apply Lk.drew | apply Lk.set | apply lk_setN HB3.out))) hk); clear hk HK; have HK := HKn))
              exact ⟨rfl, rfl, (by repeat (first | (with_reducible first | exact HK.out | apply Lk.drewN | apply Lk.drew | apply Lk.set | apply lk_setN HB3.out)))⟩
            · have p3 : (bt s (i : Nat) == 34) = false := beq_eq_false_iff_ne.mpr h34
              have p4 : (bt s (i : Nat) == 39) = true := beq_iff_eq.mpr (h3.resolve_left h34)
              clear h3 h34
              go_enter Try.func9, Try.ntmps9
              go_wp2_with (first | ((with_reducible refine gate_dst (N := 2) rfl ?_); (try (refine gate_guard (by rfl) ?_; dsimp only)); refine box_event ?hg (N := 2) ?hd (cs := #[.int .i64 0, .int .i64 0, .string (⟨#[]⟩ : ByteArray), .string (⟨#[]⟩ : ByteArray)]) (t := 29) ?hr ?_; (case hd => rfl); (case hg => rfl); (case hr => first | (go_simp; done) | (go_simp; rfl)); intro b2 hg w2 hbox hb; have HG2 := Aside0.mk hg; have K2 := Aside0.mk (show Tk w2 b2 0 0 ⟨#[]⟩ ⟨#[]⟩ from hbox); have HX2 := Aside0.mk (Lx.below HX.out hb); have HK2 := Aside0.mk (Lk.of_below (g := g) hb); clear hg hbox hb HX; have HX := HX2; have HK := HK2; clear HX2 HK2; have hc0 := HX.out.s; have hc1 := HX.out.i; have hz1 := HX.out.fz) | ((with_reducible refine gate_dst (N := 3) rfl ?_); (try (refine gate_guard (by rfl) ?_; dsimp only)); refine box_event ?hg (N := 3) ?hd (cs := #[.int .i64 0, .int .i64 0, .string (⟨#[]⟩ : ByteArray), .string (⟨#[]⟩ : ByteArray)]) (t := 29) ?hr ?_; (case hd => rfl); (case hg => rfl); (case hr => first | (go_simp; done) | (go_simp; rfl)); intro b3 hg w3 hbox hb; have HG3 := Aside0.mk hg; have K2L := Aside0.mk (Tk.lt K2.out); have K3 := Aside0.mk (show Tk w3 b3 0 0 ⟨#[]⟩ ⟨#[]⟩ from hbox); have HX2 := Aside0.mk (Lx.below HX.out hb); have HK2 := Aside0.mk (Lk.call HK.out hb); have K22 := Aside0.mk (Tk.call K2.out hb); clear hg hbox hb HX HK K2; have HX := HX2; have HK := HK2; have K2 := K22; clear HX2 HK2 K22; have ht0 := K3.out.c0; have ht1 := K3.out.c1; have ht2 := K3.out.c2; have ht3 := K3.out.c3; have hf0 := K3.out.fz 0; have hf1 := K3.out.fz 1; have hf2 := K3.out.fz 2; have hf3 := K3.out.fz 3))
              have HS2 := Aside0.mk (show w.heap.size ≤ b2 by rw [HG2.out]; exact Nat.le_refl _)
              have HS3 := Aside0.mk (show b2 < b3 by rw [HG3.out]; exact K2L.out)
              have N1 := Aside0.mk (show g ≠ b2 by have := HS2.out; have := HG.out; omega)
              have N2 := Aside0.mk (show g ≠ b3 by have := HS2.out; have := HS3.out; have := HG.out; omega)
              have N3 := Aside0.mk (show b2 ≠ b3 by have := HS3.out; omega)
              have HB3 := Aside0.mk (show w.heap.size ≤ b3 by have := HS2.out; have := HS3.out; omega)
              have HX4 : Aside0 (Lx ((((w3.setCell ⟨b3, 0, none⟩ (.int .i64 0)).setCell ⟨b3, 1, none⟩ (.int .i64 (i : Int))).setCell ⟨b3, 2, none⟩ (.string (⟨#[]⟩ : ByteArray))).setCell ⟨b3, 3, none⟩ (.string (⟨#[]⟩ : ByteArray))) g s i) := ⟨Lx.far (Lx.far (Lx.far (Lx.far HX.out N2.out _ _) N2.out _ _) N2.out _ _) N2.out _ _⟩
              have HK4 : Aside0 (Lk g w ((((w3.setCell ⟨b3, 0, none⟩ (.int .i64 0)).setCell ⟨b3, 1, none⟩ (.int .i64 (i : Int))).setCell ⟨b3, 2, none⟩ (.string (⟨#[]⟩ : ByteArray))).setCell ⟨b3, 3, none⟩ (.string (⟨#[]⟩ : ByteArray)))) := ⟨Lk.setN (Lk.setN (Lk.setN (Lk.setN HK.out HB3.out _ _) HB3.out _ _) HB3.out _ _) HB3.out _ _⟩
              have K24 : Aside0 (Tk ((((w3.setCell ⟨b3, 0, none⟩ (.int .i64 0)).setCell ⟨b3, 1, none⟩ (.int .i64 (i : Int))).setCell ⟨b3, 2, none⟩ (.string (⟨#[]⟩ : ByteArray))).setCell ⟨b3, 3, none⟩ (.string (⟨#[]⟩ : ByteArray))) b2 0 0 ⟨#[]⟩ ⟨#[]⟩) := ⟨Tk.far (Tk.far (Tk.far (Tk.far K2.out N3.out _ _) N3.out _ _) N3.out _ _) N3.out _ _⟩
              have K34 : Aside0 (Tk ((((w3.setCell ⟨b3, 0, none⟩ (.int .i64 0)).setCell ⟨b3, 1, none⟩ (.int .i64 (i : Int))).setCell ⟨b3, 2, none⟩ (.string (⟨#[]⟩ : ByteArray))).setCell ⟨b3, 3, none⟩ (.string (⟨#[]⟩ : ByteArray))) b3 0 (i : Int) ⟨#[]⟩ ⟨#[]⟩) := ⟨Tk.set3 (Tk.set2 (Tk.set1 (Tk.set0 K3.out _) _) _) _⟩
              clear HX HK K2 K3 hc0 hc1 hz1 ht0 ht1 ht2 ht3 hf0 hf1 hf2 hf3
              generalize ((((w3.setCell ⟨b3, 0, none⟩ (.int .i64 0)).setCell ⟨b3, 1, none⟩ (.int .i64 (i : Int))).setCell ⟨b3, 2, none⟩ (.string (⟨#[]⟩ : ByteArray))).setCell ⟨b3, 3, none⟩ (.string (⟨#[]⟩ : ByteArray))) = w4 at HX4 HK4 K24 K34 ⊢
              have hc0 := HX4.out.s
              have hc1 := HX4.out.i
              go_wp2
              refine wp_region_quiet_lit (by kernel_rfl) (by kernel_rfl) ?_
              repeat (go_big_quiet_step (fail))
              refine wpQuiet_nil ?_
              intro _ hw'
              obtain ⟨nq, hw''⟩ := hw'
              subst hw''
              go_wp2
              have HX5 : Aside0 (Lx (w4.drewN nq).drew g s i) := ⟨HX4.out⟩
              have HK5 : Aside0 (Lk g w (w4.drewN nq).drew) := ⟨(HK4.out.drewN nq).drew⟩
              have K25 : Aside0 (Tk (w4.drewN nq).drew b2 0 0 ⟨#[]⟩ ⟨#[]⟩) := ⟨K24.out⟩
              have K35 : Aside0 (Tk (w4.drewN nq).drew b3 0 (i : Int) ⟨#[]⟩ ⟨#[]⟩) := ⟨K34.out⟩
              clear HX4 HK4 K24 K34 hc0 hc1
              refine start_ (n := 11) (S := (fun w' => w'.cell? ⟨g, 0, none⟩ = some (.string s) ∧ w'.cell? ⟨g, 1, none⟩ = some (.int .i64 (i : Int)))) (ds := []) #[false, false, false, false, false, false, false, false, false, false, false] (by kernel_rfl) rfl rfl ⟨HX5.out.s, HX5.out.i⟩ (fun hHeld => ?_)
              refine with_tabW lexer_word.tab4 lexer_word.bits4 (fun HT_ HW_ => ?_)
              generalize (w4.drewN nq).drew = w5 at HX5 HK5 K25 K35 hHeld ⊢
              refine pus_ 0 (some 21) #[true, false, false, false, false, false, false, false, false, false, false] rfl rfl HT_.out ?_
              refine pus_ 1 (some 22) #[true, true, false, false, false, false, false, false, false, false, false] rfl rfl HT_.out ?_
              refine pus_ 2 (some 23) #[true, true, true, false, false, false, false, false, false, false, false] rfl rfl HT_.out ?_
              refine tas_ 3 (some 24) #[true, true, true, true, false, false, false, false, false, false, false] rfl rfl HT_.out HW_.out hHeld ?_
              refine pus_ 4 (some 25) #[true, true, true, true, true, false, false, false, false, false, false] rfl rfl HT_.out ?_
              refine pus_ 5 (some 26) #[true, true, true, true, true, true, false, false, false, false, false] rfl rfl HT_.out ?_
              refine pus_ 6 (some 27) #[true, true, true, true, true, true, true, false, false, false, false] rfl rfl HT_.out ?_
              refine tas_ 7 (some 28) #[true, true, true, true, true, true, true, true, false, false, false] rfl rfl HT_.out HW_.out hHeld ?_
              refine pus_ 8 (some 29) #[true, true, true, true, true, true, true, true, true, false, false] rfl rfl HT_.out ?_
              refine one_ (i := 9) (N := (some 30)) #[true, true, true, true, true, true, true, true, true, true, false] rfl rfl (one_of HT_.out (by kernel_rfl)) (by decide) (fun K hK => ?_)
              refine goes_ Try.func14 (by kernel_rfl) rfl #[.string (s.extract i s.size)] (by rfl) rfl rfl goa_ ?_
              refine (number_Scan.calls _ n _ A1.out).mono ?_
              rintro e w6 ⟨rfl, hb⟩
              refine ⟨_, rfl, ?_⟩
              have HX := Aside0.mk (HX5.out.below hb)
              have HK := Aside0.mk (HK5.out.call hb)
              have K2 := Aside0.mk (K25.out.call hb)
              have K3 := Aside0.mk (K35.out.call hb)
              clear hb HX5 HK5 K25 K35
              refine hK.out _ _ ⟨HX.out.s, HX.out.i⟩ (fun hHeld => ?_)
              clear hK K
              refine norm_ (a' := ?_) ?_ ?_
              rotate_left
              ·show Act.put _ (some 30) _ = _
               simp only [Act.put, List.setIfInBounds_toArray, List.set_cons_zero, List.set_cons_succ, i64_w, i32_w]
               rfl
              refine pus_ 10 (some 6) #[true, true, true, true, true, true, true, true, true, true, true] rfl rfl HT_.out ?_
              refine done_ (done_of HT_.out (by kernel_rfl)) ?_
              clear hHeld HT_ HW_
              have hc0 := HX.out.s
              have hc1 := HX.out.i
              have hz1 := HX.out.fz
              have ht0 := K3.out.c0
              have ht1 := K3.out.c1
              have ht2 := K3.out.c2
              have ht3 := K3.out.c3
              have hf0 := K3.out.fz 0
              have hf1 := K3.out.fz 1
              have hf2 := K3.out.fz 2
              have hf3 := K3.out.fz 3
              have hne := N2.out
              have hne2 := N2.out.symm
              have hne3 := N1.out
              have hne4 := N1.out.symm
              have hne5 := N3.out
              have hne6 := N3.out.symm
              go_wp2_with (first | (go_at_call 17; with_reducible refine (begins_calls k s g i HS.out HII.out _ _ ?lx A2.out).mono ?_; (case lx => exact (by repeat (first | (with_reducible first | exact HX.out | apply Lx.drewN | apply Lx.drew | apply Lx.set | apply lx_far N2.out)))); rintro e wb ⟨rfl, hb⟩; have HXn := Aside0.mk (Lx.below (by repeat (first | (with_reducible first | exact HX.out | apply Lx.drewN | apply Lx.drew | apply Lx.set | apply lx_far N2.out))) hb); have HKn := Aside0.mk (Lk.call (by repeat (first | (with_reducible first | exact HK.out | apply Lk.drewN | apply Lk.drew | apply Lk.set | apply lk_setN HB3.out))) hb); have K2n := Aside0.mk (Tk.call (by repeat (first | (with_reducible first | exact K2.out | apply Tk.drewN | apply Tk.drew | apply tk_far N1.out.symm | apply tk_far N3.out))) hb); have K3n := Aside0.mk (Tk.call (by repeat (first | (with_reducible first | exact K3.out | apply Tk.drewN | apply Tk.drew | apply tk_far N2.out.symm))) hb); clear hb; clear HX HK K2 K3; have HX := HXn; have HK := HKn; have K2 := K2n; have K3 := K3n; clear HXn HKn K2n K3n; have hc0 := HX.out.s; have hc1 := HX.out.i; have hz1 := HX.out.fz; have ht0 := K3.out.c0; have ht1 := K3.out.c1; have ht2 := K3.out.c2; have ht3 := K3.out.c3; have hf0 := K3.out.fz 0; have hf1 := K3.out.fz 1; have hf2 := K3.out.fz 2; have hf3 := K3.out.fz 3; have hr0 := K2.out.c0; have hr1 := K2.out.c1; have hr2 := K2.out.c2; have hr3 := K2.out.c3; have hs0 := K2.out.fz 0; have hs1 := K2.out.fz 1; have hs2 := K2.out.fz 2; have hs3 := K2.out.fz 3) | (go_at_call 20; with_reducible refine (quotedE_calls k s g i _ HS.out HLT.out _ ?lx A4.out).mono ?_; (case lx => exact (by repeat (first | (with_reducible first | exact HX.out | apply Lx.drewN | apply Lx.drew | apply Lx.set | apply lx_far N2.out)))); intro e wd hqr; obtain ⟨rfl, hk⟩ := hqr.dead; have HKn := Aside0.mk (Lk.trans (by repeat (first | (with_reducible first | exact HK.out | apply Lk.drewN | apply Lk.drew | apply Lk.set | apply lk_setN HB3.out))) hk); clear hk HK; have HK := HKn))
              exact ⟨rfl, rfl, (by repeat (first | (with_reducible first | exact HK.out | apply Lk.drewN | apply Lk.drew | apply Lk.set | apply lk_setN HB3.out)))⟩
          | some t =>
            obtain ⟨l, e⟩ := t
            change (if l.length ≤ 8192 then none else if e ≤ s.size then some 52 else none) = some c at hf
            by_cases h4 : l.length ≤ 8192
            · rw [if_pos h4] at hf
              cases hf
            · rw [if_neg h4] at hf
              by_cases h5 : e ≤ s.size
              · rw [if_pos h5] at hf
                obtain rfl := Option.some.inj hf
                obtain ⟨x, hx⟩ : ∃ x : ByteArray, (⟨l.toArray⟩ : ByteArray) = x := ⟨_, rfl⟩
                have HTX := Aside0.mk hx
                have hxs : 8192 < x.size := by
                  rw [← hx]
                  show 8192 < l.toArray.size
                  rw [List.size_toArray]
                  omega
                have p8 : decide ((x.size : Int) > 8192) = true := decide_eq_true (by omega)
                have p9 : decide (8192 < (x.size : Int)) = true := decide_eq_true (by omega)
                clear hf h4 h5 hx hxs
                by_cases h34 : bt s (i : Nat) = 34
                · have p3 : (bt s (i : Nat) == 34) = true := beq_iff_eq.mpr h34
                  clear h3 h34
                  go_enter Try.func9, Try.ntmps9
                  go_wp2_with (first | ((with_reducible refine gate_dst (N := 2) rfl ?_); (try (refine gate_guard (by rfl) ?_; dsimp only)); refine box_event ?hg (N := 2) ?hd (cs := #[.int .i64 0, .int .i64 0, .string (⟨#[]⟩ : ByteArray), .string (⟨#[]⟩ : ByteArray)]) (t := 29) ?hr ?_; (case hd => rfl); (case hg => rfl); (case hr => first | (go_simp; done) | (go_simp; rfl)); intro b2 hg w2 hbox hb; have HG2 := Aside0.mk hg; have K2 := Aside0.mk (show Tk w2 b2 0 0 ⟨#[]⟩ ⟨#[]⟩ from hbox); have HX2 := Aside0.mk (Lx.below HX.out hb); have HK2 := Aside0.mk (Lk.of_below (g := g) hb); clear hg hbox hb HX; have HX := HX2; have HK := HK2; clear HX2 HK2; have hc0 := HX.out.s; have hc1 := HX.out.i; have hz1 := HX.out.fz) | ((with_reducible refine gate_dst (N := 3) rfl ?_); (try (refine gate_guard (by rfl) ?_; dsimp only)); refine box_event ?hg (N := 3) ?hd (cs := #[.int .i64 0, .int .i64 0, .string (⟨#[]⟩ : ByteArray), .string (⟨#[]⟩ : ByteArray)]) (t := 29) ?hr ?_; (case hd => rfl); (case hg => rfl); (case hr => first | (go_simp; done) | (go_simp; rfl)); intro b3 hg w3 hbox hb; have HG3 := Aside0.mk hg; have K2L := Aside0.mk (Tk.lt K2.out); have K3 := Aside0.mk (show Tk w3 b3 0 0 ⟨#[]⟩ ⟨#[]⟩ from hbox); have HX2 := Aside0.mk (Lx.below HX.out hb); have HK2 := Aside0.mk (Lk.call HK.out hb); have K22 := Aside0.mk (Tk.call K2.out hb); clear hg hbox hb HX HK K2; have HX := HX2; have HK := HK2; have K2 := K22; clear HX2 HK2 K22; have ht0 := K3.out.c0; have ht1 := K3.out.c1; have ht2 := K3.out.c2; have ht3 := K3.out.c3; have hf0 := K3.out.fz 0; have hf1 := K3.out.fz 1; have hf2 := K3.out.fz 2; have hf3 := K3.out.fz 3))
                  have HS2 := Aside0.mk (show w.heap.size ≤ b2 by rw [HG2.out]; exact Nat.le_refl _)
                  have HS3 := Aside0.mk (show b2 < b3 by rw [HG3.out]; exact K2L.out)
                  have N1 := Aside0.mk (show g ≠ b2 by have := HS2.out; have := HG.out; omega)
                  have N2 := Aside0.mk (show g ≠ b3 by have := HS2.out; have := HS3.out; have := HG.out; omega)
                  have N3 := Aside0.mk (show b2 ≠ b3 by have := HS3.out; omega)
                  have HB3 := Aside0.mk (show w.heap.size ≤ b3 by have := HS2.out; have := HS3.out; omega)
                  have HX4 : Aside0 (Lx ((((w3.setCell ⟨b3, 0, none⟩ (.int .i64 0)).setCell ⟨b3, 1, none⟩ (.int .i64 (i : Int))).setCell ⟨b3, 2, none⟩ (.string (⟨#[]⟩ : ByteArray))).setCell ⟨b3, 3, none⟩ (.string (⟨#[]⟩ : ByteArray))) g s i) := ⟨Lx.far (Lx.far (Lx.far (Lx.far HX.out N2.out _ _) N2.out _ _) N2.out _ _) N2.out _ _⟩
                  have HK4 : Aside0 (Lk g w ((((w3.setCell ⟨b3, 0, none⟩ (.int .i64 0)).setCell ⟨b3, 1, none⟩ (.int .i64 (i : Int))).setCell ⟨b3, 2, none⟩ (.string (⟨#[]⟩ : ByteArray))).setCell ⟨b3, 3, none⟩ (.string (⟨#[]⟩ : ByteArray)))) := ⟨Lk.setN (Lk.setN (Lk.setN (Lk.setN HK.out HB3.out _ _) HB3.out _ _) HB3.out _ _) HB3.out _ _⟩
                  have K24 : Aside0 (Tk ((((w3.setCell ⟨b3, 0, none⟩ (.int .i64 0)).setCell ⟨b3, 1, none⟩ (.int .i64 (i : Int))).setCell ⟨b3, 2, none⟩ (.string (⟨#[]⟩ : ByteArray))).setCell ⟨b3, 3, none⟩ (.string (⟨#[]⟩ : ByteArray))) b2 0 0 ⟨#[]⟩ ⟨#[]⟩) := ⟨Tk.far (Tk.far (Tk.far (Tk.far K2.out N3.out _ _) N3.out _ _) N3.out _ _) N3.out _ _⟩
                  have K34 : Aside0 (Tk ((((w3.setCell ⟨b3, 0, none⟩ (.int .i64 0)).setCell ⟨b3, 1, none⟩ (.int .i64 (i : Int))).setCell ⟨b3, 2, none⟩ (.string (⟨#[]⟩ : ByteArray))).setCell ⟨b3, 3, none⟩ (.string (⟨#[]⟩ : ByteArray))) b3 0 (i : Int) ⟨#[]⟩ ⟨#[]⟩) := ⟨Tk.set3 (Tk.set2 (Tk.set1 (Tk.set0 K3.out _) _) _) _⟩
                  clear HX HK K2 K3 hc0 hc1 hz1 ht0 ht1 ht2 ht3 hf0 hf1 hf2 hf3
                  generalize ((((w3.setCell ⟨b3, 0, none⟩ (.int .i64 0)).setCell ⟨b3, 1, none⟩ (.int .i64 (i : Int))).setCell ⟨b3, 2, none⟩ (.string (⟨#[]⟩ : ByteArray))).setCell ⟨b3, 3, none⟩ (.string (⟨#[]⟩ : ByteArray))) = w4 at HX4 HK4 K24 K34 ⊢
                  have hc0 := HX4.out.s
                  have hc1 := HX4.out.i
                  go_wp2
                  refine wp_region_quiet_lit (by kernel_rfl) (by kernel_rfl) ?_
                  repeat (go_big_quiet_step (fail))
                  refine wpQuiet_nil ?_
                  intro _ hw'
                  obtain ⟨nq, hw''⟩ := hw'
                  subst hw''
                  go_wp2
                  have HX5 : Aside0 (Lx (w4.drewN nq).drew g s i) := ⟨HX4.out⟩
                  have HK5 : Aside0 (Lk g w (w4.drewN nq).drew) := ⟨(HK4.out.drewN nq).drew⟩
                  have K25 : Aside0 (Tk (w4.drewN nq).drew b2 0 0 ⟨#[]⟩ ⟨#[]⟩) := ⟨K24.out⟩
                  have K35 : Aside0 (Tk (w4.drewN nq).drew b3 0 (i : Int) ⟨#[]⟩ ⟨#[]⟩) := ⟨K34.out⟩
                  clear HX4 HK4 K24 K34 hc0 hc1
                  refine start_ (n := 11) (S := (fun w' => w'.cell? ⟨g, 0, none⟩ = some (.string s) ∧ w'.cell? ⟨g, 1, none⟩ = some (.int .i64 (i : Int)))) (ds := []) #[false, false, false, false, false, false, false, false, false, false, false] (by kernel_rfl) rfl rfl ⟨HX5.out.s, HX5.out.i⟩ (fun hHeld => ?_)
                  refine with_tabW lexer_word.tab4 lexer_word.bits4 (fun HT_ HW_ => ?_)
                  generalize (w4.drewN nq).drew = w5 at HX5 HK5 K25 K35 hHeld ⊢
                  refine pus_ 0 (some 21) #[true, false, false, false, false, false, false, false, false, false, false] rfl rfl HT_.out ?_
                  refine pus_ 1 (some 22) #[true, true, false, false, false, false, false, false, false, false, false] rfl rfl HT_.out ?_
                  refine pus_ 2 (some 23) #[true, true, true, false, false, false, false, false, false, false, false] rfl rfl HT_.out ?_
                  refine tas_ 3 (some 24) #[true, true, true, true, false, false, false, false, false, false, false] rfl rfl HT_.out HW_.out hHeld ?_
                  refine pus_ 4 (some 25) #[true, true, true, true, true, false, false, false, false, false, false] rfl rfl HT_.out ?_
                  refine pus_ 5 (some 26) #[true, true, true, true, true, true, false, false, false, false, false] rfl rfl HT_.out ?_
                  refine pus_ 6 (some 27) #[true, true, true, true, true, true, true, false, false, false, false] rfl rfl HT_.out ?_
                  refine tas_ 7 (some 28) #[true, true, true, true, true, true, true, true, false, false, false] rfl rfl HT_.out HW_.out hHeld ?_
                  refine pus_ 8 (some 29) #[true, true, true, true, true, true, true, true, true, false, false] rfl rfl HT_.out ?_
                  refine one_ (i := 9) (N := (some 30)) #[true, true, true, true, true, true, true, true, true, true, false] rfl rfl (one_of HT_.out (by kernel_rfl)) (by decide) (fun K hK => ?_)
                  refine goes_ Try.func14 (by kernel_rfl) rfl #[.string (s.extract i s.size)] (by rfl) rfl rfl goa_ ?_
                  refine (number_Scan.calls _ n _ A1.out).mono ?_
                  rintro e w6 ⟨rfl, hb⟩
                  refine ⟨_, rfl, ?_⟩
                  have HX := Aside0.mk (HX5.out.below hb)
                  have HK := Aside0.mk (HK5.out.call hb)
                  have K2 := Aside0.mk (K25.out.call hb)
                  have K3 := Aside0.mk (K35.out.call hb)
                  clear hb HX5 HK5 K25 K35
                  refine hK.out _ _ ⟨HX.out.s, HX.out.i⟩ (fun hHeld => ?_)
                  clear hK K
                  refine norm_ (a' := ?_) ?_ ?_
                  rotate_left
                  ·show Act.put _ (some 30) _ = _
                   simp only [Act.put, List.setIfInBounds_toArray, List.set_cons_zero, List.set_cons_succ, i64_w, i32_w]
                   rfl
                  refine pus_ 10 (some 6) #[true, true, true, true, true, true, true, true, true, true, true] rfl rfl HT_.out ?_
                  refine done_ (done_of HT_.out (by kernel_rfl)) ?_
                  clear hHeld HT_ HW_
                  have hc0 := HX.out.s
                  have hc1 := HX.out.i
                  have hz1 := HX.out.fz
                  have ht0 := K3.out.c0
                  have ht1 := K3.out.c1
                  have ht2 := K3.out.c2
                  have ht3 := K3.out.c3
                  have hf0 := K3.out.fz 0
                  have hf1 := K3.out.fz 1
                  have hf2 := K3.out.fz 2
                  have hf3 := K3.out.fz 3
                  have hne := N2.out
                  have hne2 := N2.out.symm
                  have hne3 := N1.out
                  have hne4 := N1.out.symm
                  have hne5 := N3.out
                  have hne6 := N3.out.symm
                  go_wp2_with (first | (go_at_call 17; with_reducible refine (begins_calls k s g i HS.out HII.out _ _ ?lx A2.out).mono ?_; (case lx => exact (by repeat (first | (with_reducible first | exact HX.out | apply Lx.drewN | apply Lx.drew | apply Lx.set | apply lx_far N2.out)))); rintro e wb ⟨rfl, hb⟩; have HXn := Aside0.mk (Lx.below (by repeat (first | (with_reducible first | exact HX.out | apply Lx.drewN | apply Lx.drew | apply Lx.set | apply lx_far N2.out))) hb); have HKn := Aside0.mk (Lk.call (by repeat (first | (with_reducible first | exact HK.out | apply Lk.drewN | apply Lk.drew | apply Lk.set | apply lk_setN HB3.out))) hb); have K2n := Aside0.mk (Tk.call (by repeat (first | (with_reducible first | exact K2.out | apply Tk.drewN | apply Tk.drew | apply tk_far N1.out.symm | apply tk_far N3.out))) hb); have K3n := Aside0.mk (Tk.call (by repeat (first | (with_reducible first | exact K3.out | apply Tk.drewN | apply Tk.drew | apply tk_far N2.out.symm))) hb); clear hb; clear HX HK K2 K3; have HX := HXn; have HK := HKn; have K2 := K2n; have K3 := K3n; clear HXn HKn K2n K3n; have hc0 := HX.out.s; have hc1 := HX.out.i; have hz1 := HX.out.fz; have ht0 := K3.out.c0; have ht1 := K3.out.c1; have ht2 := K3.out.c2; have ht3 := K3.out.c3; have hf0 := K3.out.fz 0; have hf1 := K3.out.fz 1; have hf2 := K3.out.fz 2; have hf3 := K3.out.fz 3; have hr0 := K2.out.c0; have hr1 := K2.out.c1; have hr2 := K2.out.c2; have hr3 := K2.out.c3; have hs0 := K2.out.fz 0; have hs1 := K2.out.fz 1; have hs2 := K2.out.fz 2; have hs3 := K2.out.fz 3) | (go_at_call 20; with_reducible refine (quotedE_calls k s g i _ HS.out HLT.out _ ?lx A4.out).mono ?_; (case lx => exact (by repeat (first | (with_reducible first | exact HX.out | apply Lx.drewN | apply Lx.drew | apply Lx.set | apply lx_far N2.out)))); intro e wd hqr; obtain ⟨rfl, hx, hk⟩ := hqr.out; rw [HTX.out]; have HXn := Aside0.mk hx; have HKn := Aside0.mk (Lk.trans (by repeat (first | (with_reducible first | exact HK.out | apply Lk.drewN | apply Lk.drew | apply Lk.set | apply lk_setN HB3.out))) hk); have K2n := Aside0.mk (Tk.lk (by repeat (first | (with_reducible first | exact K2.out | apply Tk.drewN | apply Tk.drew | apply tk_far N1.out.symm | apply tk_far N3.out))) hk N1.out.symm); have K3n := Aside0.mk (Tk.lk (by repeat (first | (with_reducible first | exact K3.out | apply Tk.drewN | apply Tk.drew | apply tk_far N2.out.symm))) hk N2.out.symm); clear hx hk; clear HX HK K2 K3; have HX := HXn; have HK := HKn; have K2 := K2n; have K3 := K3n; clear HXn HKn K2n K3n; have hc0 := HX.out.s; have hc1 := HX.out.i; have hz1 := HX.out.fz; have ht0 := K3.out.c0; have ht1 := K3.out.c1; have ht2 := K3.out.c2; have ht3 := K3.out.c3; have hf0 := K3.out.fz 0; have hf1 := K3.out.fz 1; have hf2 := K3.out.fz 2; have hf3 := K3.out.fz 3; have hr0 := K2.out.c0; have hr1 := K2.out.c1; have hr2 := K2.out.c2; have hr3 := K2.out.c3; have hs0 := K2.out.fz 0; have hs1 := K2.out.fz 1; have hs2 := K2.out.fz 2; have hs3 := K2.out.fz 3) | (go_at_call 10; with_reducible refine (fail_calls g _ 52 _).mono ?_; rintro e wf ⟨rfl, rfl⟩))
                  exact ⟨rfl, rfl, (by repeat (first | (with_reducible first | exact HK.out | apply Lk.drewN | apply Lk.drew | apply Lk.set | apply lk_setN HB3.out)))⟩
                · have p3 : (bt s (i : Nat) == 34) = false := beq_eq_false_iff_ne.mpr h34
                  have p4 : (bt s (i : Nat) == 39) = true := beq_iff_eq.mpr (h3.resolve_left h34)
                  clear h3 h34
                  go_enter Try.func9, Try.ntmps9
                  go_wp2_with (first | ((with_reducible refine gate_dst (N := 2) rfl ?_); (try (refine gate_guard (by rfl) ?_; dsimp only)); refine box_event ?hg (N := 2) ?hd (cs := #[.int .i64 0, .int .i64 0, .string (⟨#[]⟩ : ByteArray), .string (⟨#[]⟩ : ByteArray)]) (t := 29) ?hr ?_; (case hd => rfl); (case hg => rfl); (case hr => first | (go_simp; done) | (go_simp; rfl)); intro b2 hg w2 hbox hb; have HG2 := Aside0.mk hg; have K2 := Aside0.mk (show Tk w2 b2 0 0 ⟨#[]⟩ ⟨#[]⟩ from hbox); have HX2 := Aside0.mk (Lx.below HX.out hb); have HK2 := Aside0.mk (Lk.of_below (g := g) hb); clear hg hbox hb HX; have HX := HX2; have HK := HK2; clear HX2 HK2; have hc0 := HX.out.s; have hc1 := HX.out.i; have hz1 := HX.out.fz) | ((with_reducible refine gate_dst (N := 3) rfl ?_); (try (refine gate_guard (by rfl) ?_; dsimp only)); refine box_event ?hg (N := 3) ?hd (cs := #[.int .i64 0, .int .i64 0, .string (⟨#[]⟩ : ByteArray), .string (⟨#[]⟩ : ByteArray)]) (t := 29) ?hr ?_; (case hd => rfl); (case hg => rfl); (case hr => first | (go_simp; done) | (go_simp; rfl)); intro b3 hg w3 hbox hb; have HG3 := Aside0.mk hg; have K2L := Aside0.mk (Tk.lt K2.out); have K3 := Aside0.mk (show Tk w3 b3 0 0 ⟨#[]⟩ ⟨#[]⟩ from hbox); have HX2 := Aside0.mk (Lx.below HX.out hb); have HK2 := Aside0.mk (Lk.call HK.out hb); have K22 := Aside0.mk (Tk.call K2.out hb); clear hg hbox hb HX HK K2; have HX := HX2; have HK := HK2; have K2 := K22; clear HX2 HK2 K22; have ht0 := K3.out.c0; have ht1 := K3.out.c1; have ht2 := K3.out.c2; have ht3 := K3.out.c3; have hf0 := K3.out.fz 0; have hf1 := K3.out.fz 1; have hf2 := K3.out.fz 2; have hf3 := K3.out.fz 3))
                  have HS2 := Aside0.mk (show w.heap.size ≤ b2 by rw [HG2.out]; exact Nat.le_refl _)
                  have HS3 := Aside0.mk (show b2 < b3 by rw [HG3.out]; exact K2L.out)
                  have N1 := Aside0.mk (show g ≠ b2 by have := HS2.out; have := HG.out; omega)
                  have N2 := Aside0.mk (show g ≠ b3 by have := HS2.out; have := HS3.out; have := HG.out; omega)
                  have N3 := Aside0.mk (show b2 ≠ b3 by have := HS3.out; omega)
                  have HB3 := Aside0.mk (show w.heap.size ≤ b3 by have := HS2.out; have := HS3.out; omega)
                  have HX4 : Aside0 (Lx ((((w3.setCell ⟨b3, 0, none⟩ (.int .i64 0)).setCell ⟨b3, 1, none⟩ (.int .i64 (i : Int))).setCell ⟨b3, 2, none⟩ (.string (⟨#[]⟩ : ByteArray))).setCell ⟨b3, 3, none⟩ (.string (⟨#[]⟩ : ByteArray))) g s i) := ⟨Lx.far (Lx.far (Lx.far (Lx.far HX.out N2.out _ _) N2.out _ _) N2.out _ _) N2.out _ _⟩
                  have HK4 : Aside0 (Lk g w ((((w3.setCell ⟨b3, 0, none⟩ (.int .i64 0)).setCell ⟨b3, 1, none⟩ (.int .i64 (i : Int))).setCell ⟨b3, 2, none⟩ (.string (⟨#[]⟩ : ByteArray))).setCell ⟨b3, 3, none⟩ (.string (⟨#[]⟩ : ByteArray)))) := ⟨Lk.setN (Lk.setN (Lk.setN (Lk.setN HK.out HB3.out _ _) HB3.out _ _) HB3.out _ _) HB3.out _ _⟩
                  have K24 : Aside0 (Tk ((((w3.setCell ⟨b3, 0, none⟩ (.int .i64 0)).setCell ⟨b3, 1, none⟩ (.int .i64 (i : Int))).setCell ⟨b3, 2, none⟩ (.string (⟨#[]⟩ : ByteArray))).setCell ⟨b3, 3, none⟩ (.string (⟨#[]⟩ : ByteArray))) b2 0 0 ⟨#[]⟩ ⟨#[]⟩) := ⟨Tk.far (Tk.far (Tk.far (Tk.far K2.out N3.out _ _) N3.out _ _) N3.out _ _) N3.out _ _⟩
                  have K34 : Aside0 (Tk ((((w3.setCell ⟨b3, 0, none⟩ (.int .i64 0)).setCell ⟨b3, 1, none⟩ (.int .i64 (i : Int))).setCell ⟨b3, 2, none⟩ (.string (⟨#[]⟩ : ByteArray))).setCell ⟨b3, 3, none⟩ (.string (⟨#[]⟩ : ByteArray))) b3 0 (i : Int) ⟨#[]⟩ ⟨#[]⟩) := ⟨Tk.set3 (Tk.set2 (Tk.set1 (Tk.set0 K3.out _) _) _) _⟩
                  clear HX HK K2 K3 hc0 hc1 hz1 ht0 ht1 ht2 ht3 hf0 hf1 hf2 hf3
                  generalize ((((w3.setCell ⟨b3, 0, none⟩ (.int .i64 0)).setCell ⟨b3, 1, none⟩ (.int .i64 (i : Int))).setCell ⟨b3, 2, none⟩ (.string (⟨#[]⟩ : ByteArray))).setCell ⟨b3, 3, none⟩ (.string (⟨#[]⟩ : ByteArray))) = w4 at HX4 HK4 K24 K34 ⊢
                  have hc0 := HX4.out.s
                  have hc1 := HX4.out.i
                  go_wp2
                  refine wp_region_quiet_lit (by kernel_rfl) (by kernel_rfl) ?_
                  repeat (go_big_quiet_step (fail))
                  refine wpQuiet_nil ?_
                  intro _ hw'
                  obtain ⟨nq, hw''⟩ := hw'
                  subst hw''
                  go_wp2
                  have HX5 : Aside0 (Lx (w4.drewN nq).drew g s i) := ⟨HX4.out⟩
                  have HK5 : Aside0 (Lk g w (w4.drewN nq).drew) := ⟨(HK4.out.drewN nq).drew⟩
                  have K25 : Aside0 (Tk (w4.drewN nq).drew b2 0 0 ⟨#[]⟩ ⟨#[]⟩) := ⟨K24.out⟩
                  have K35 : Aside0 (Tk (w4.drewN nq).drew b3 0 (i : Int) ⟨#[]⟩ ⟨#[]⟩) := ⟨K34.out⟩
                  clear HX4 HK4 K24 K34 hc0 hc1
                  refine start_ (n := 11) (S := (fun w' => w'.cell? ⟨g, 0, none⟩ = some (.string s) ∧ w'.cell? ⟨g, 1, none⟩ = some (.int .i64 (i : Int)))) (ds := []) #[false, false, false, false, false, false, false, false, false, false, false] (by kernel_rfl) rfl rfl ⟨HX5.out.s, HX5.out.i⟩ (fun hHeld => ?_)
                  refine with_tabW lexer_word.tab4 lexer_word.bits4 (fun HT_ HW_ => ?_)
                  generalize (w4.drewN nq).drew = w5 at HX5 HK5 K25 K35 hHeld ⊢
                  refine pus_ 0 (some 21) #[true, false, false, false, false, false, false, false, false, false, false] rfl rfl HT_.out ?_
                  refine pus_ 1 (some 22) #[true, true, false, false, false, false, false, false, false, false, false] rfl rfl HT_.out ?_
                  refine pus_ 2 (some 23) #[true, true, true, false, false, false, false, false, false, false, false] rfl rfl HT_.out ?_
                  refine tas_ 3 (some 24) #[true, true, true, true, false, false, false, false, false, false, false] rfl rfl HT_.out HW_.out hHeld ?_
                  refine pus_ 4 (some 25) #[true, true, true, true, true, false, false, false, false, false, false] rfl rfl HT_.out ?_
                  refine pus_ 5 (some 26) #[true, true, true, true, true, true, false, false, false, false, false] rfl rfl HT_.out ?_
                  refine pus_ 6 (some 27) #[true, true, true, true, true, true, true, false, false, false, false] rfl rfl HT_.out ?_
                  refine tas_ 7 (some 28) #[true, true, true, true, true, true, true, true, false, false, false] rfl rfl HT_.out HW_.out hHeld ?_
                  refine pus_ 8 (some 29) #[true, true, true, true, true, true, true, true, true, false, false] rfl rfl HT_.out ?_
                  refine one_ (i := 9) (N := (some 30)) #[true, true, true, true, true, true, true, true, true, true, false] rfl rfl (one_of HT_.out (by kernel_rfl)) (by decide) (fun K hK => ?_)
                  refine goes_ Try.func14 (by kernel_rfl) rfl #[.string (s.extract i s.size)] (by rfl) rfl rfl goa_ ?_
                  refine (number_Scan.calls _ n _ A1.out).mono ?_
                  rintro e w6 ⟨rfl, hb⟩
                  refine ⟨_, rfl, ?_⟩
                  have HX := Aside0.mk (HX5.out.below hb)
                  have HK := Aside0.mk (HK5.out.call hb)
                  have K2 := Aside0.mk (K25.out.call hb)
                  have K3 := Aside0.mk (K35.out.call hb)
                  clear hb HX5 HK5 K25 K35
                  refine hK.out _ _ ⟨HX.out.s, HX.out.i⟩ (fun hHeld => ?_)
                  clear hK K
                  refine norm_ (a' := ?_) ?_ ?_
                  rotate_left
                  ·show Act.put _ (some 30) _ = _
                   simp only [Act.put, List.setIfInBounds_toArray, List.set_cons_zero, List.set_cons_succ, i64_w, i32_w]
                   rfl
                  refine pus_ 10 (some 6) #[true, true, true, true, true, true, true, true, true, true, true] rfl rfl HT_.out ?_
                  refine done_ (done_of HT_.out (by kernel_rfl)) ?_
                  clear hHeld HT_ HW_
                  have hc0 := HX.out.s
                  have hc1 := HX.out.i
                  have hz1 := HX.out.fz
                  have ht0 := K3.out.c0
                  have ht1 := K3.out.c1
                  have ht2 := K3.out.c2
                  have ht3 := K3.out.c3
                  have hf0 := K3.out.fz 0
                  have hf1 := K3.out.fz 1
                  have hf2 := K3.out.fz 2
                  have hf3 := K3.out.fz 3
                  have hne := N2.out
                  have hne2 := N2.out.symm
                  have hne3 := N1.out
                  have hne4 := N1.out.symm
                  have hne5 := N3.out
                  have hne6 := N3.out.symm
                  go_wp2_with (first | (go_at_call 17; with_reducible refine (begins_calls k s g i HS.out HII.out _ _ ?lx A2.out).mono ?_; (case lx => exact (by repeat (first | (with_reducible first | exact HX.out | apply Lx.drewN | apply Lx.drew | apply Lx.set | apply lx_far N2.out)))); rintro e wb ⟨rfl, hb⟩; have HXn := Aside0.mk (Lx.below (by repeat (first | (with_reducible first | exact HX.out | apply Lx.drewN | apply Lx.drew | apply Lx.set | apply lx_far N2.out))) hb); have HKn := Aside0.mk (Lk.call (by repeat (first | (with_reducible first | exact HK.out | apply Lk.drewN | apply Lk.drew | apply Lk.set | apply lk_setN HB3.out))) hb); have K2n := Aside0.mk (Tk.call (by repeat (first | (with_reducible first | exact K2.out | apply Tk.drewN | apply Tk.drew | apply tk_far N1.out.symm | apply tk_far N3.out))) hb); have K3n := Aside0.mk (Tk.call (by repeat (first | (with_reducible first | exact K3.out | apply Tk.drewN | apply Tk.drew | apply tk_far N2.out.symm))) hb); clear hb; clear HX HK K2 K3; have HX := HXn; have HK := HKn; have K2 := K2n; have K3 := K3n; clear HXn HKn K2n K3n; have hc0 := HX.out.s; have hc1 := HX.out.i; have hz1 := HX.out.fz; have ht0 := K3.out.c0; have ht1 := K3.out.c1; have ht2 := K3.out.c2; have ht3 := K3.out.c3; have hf0 := K3.out.fz 0; have hf1 := K3.out.fz 1; have hf2 := K3.out.fz 2; have hf3 := K3.out.fz 3; have hr0 := K2.out.c0; have hr1 := K2.out.c1; have hr2 := K2.out.c2; have hr3 := K2.out.c3; have hs0 := K2.out.fz 0; have hs1 := K2.out.fz 1; have hs2 := K2.out.fz 2; have hs3 := K2.out.fz 3) | (go_at_call 20; with_reducible refine (quotedE_calls k s g i _ HS.out HLT.out _ ?lx A4.out).mono ?_; (case lx => exact (by repeat (first | (with_reducible first | exact HX.out | apply Lx.drewN | apply Lx.drew | apply Lx.set | apply lx_far N2.out)))); intro e wd hqr; obtain ⟨rfl, hx, hk⟩ := hqr.out; rw [HTX.out]; have HXn := Aside0.mk hx; have HKn := Aside0.mk (Lk.trans (by repeat (first | (with_reducible first | exact HK.out | apply Lk.drewN | apply Lk.drew | apply Lk.set | apply lk_setN HB3.out))) hk); have K2n := Aside0.mk (Tk.lk (by repeat (first | (with_reducible first | exact K2.out | apply Tk.drewN | apply Tk.drew | apply tk_far N1.out.symm | apply tk_far N3.out))) hk N1.out.symm); have K3n := Aside0.mk (Tk.lk (by repeat (first | (with_reducible first | exact K3.out | apply Tk.drewN | apply Tk.drew | apply tk_far N2.out.symm))) hk N2.out.symm); clear hx hk; clear HX HK K2 K3; have HX := HXn; have HK := HKn; have K2 := K2n; have K3 := K3n; clear HXn HKn K2n K3n; have hc0 := HX.out.s; have hc1 := HX.out.i; have hz1 := HX.out.fz; have ht0 := K3.out.c0; have ht1 := K3.out.c1; have ht2 := K3.out.c2; have ht3 := K3.out.c3; have hf0 := K3.out.fz 0; have hf1 := K3.out.fz 1; have hf2 := K3.out.fz 2; have hf3 := K3.out.fz 3; have hr0 := K2.out.c0; have hr1 := K2.out.c1; have hr2 := K2.out.c2; have hr3 := K2.out.c3; have hs0 := K2.out.fz 0; have hs1 := K2.out.fz 1; have hs2 := K2.out.fz 2; have hs3 := K2.out.fz 3) | (go_at_call 10; with_reducible refine (fail_calls g _ 52 _).mono ?_; rintro e wf ⟨rfl, rfl⟩))
                  exact ⟨rfl, rfl, (by repeat (first | (with_reducible first | exact HK.out | apply Lk.drewN | apply Lk.drew | apply Lk.set | apply lk_setN HB3.out)))⟩
              · rw [if_neg h5] at hf
                cases hf
        · rw [if_neg h3] at hf
          obtain ⟨q, hq, hf⟩ := Option.bind_eq_some_iff.mp hf
          have A3 := Aside0.mk hq
          clear hq
          by_cases h4 : q ≥ 0
          · rw [if_pos h4] at hf
            cases hf
          · rw [if_neg h4] at hf
            obtain rfl := Option.some.inj hf
            have p3 : (bt s (i : Nat) == 34) = false := by simpa using (fun e => h3 (Or.inl e))
            have p4 : (bt s (i : Nat) == 39) = false := by simpa using (fun e => h3 (Or.inr e))
            have p5 : decide (q ≥ 0) = false := decide_eq_false h4
            have p6 : decide (0 ≤ q) = false := decide_eq_false h4
            clear h3 h4 hf
            go_enter Try.func9, Try.ntmps9
            go_wp2_with (first | ((with_reducible refine gate_dst (N := 2) rfl ?_); (try (refine gate_guard (by rfl) ?_; dsimp only)); refine box_event ?hg (N := 2) ?hd (cs := #[.int .i64 0, .int .i64 0, .string (⟨#[]⟩ : ByteArray), .string (⟨#[]⟩ : ByteArray)]) (t := 29) ?hr ?_; (case hd => rfl); (case hg => rfl); (case hr => first | (go_simp; done) | (go_simp; rfl)); intro b2 hg w2 hbox hb; have HG2 := Aside0.mk hg; have K2 := Aside0.mk (show Tk w2 b2 0 0 ⟨#[]⟩ ⟨#[]⟩ from hbox); have HX2 := Aside0.mk (Lx.below HX.out hb); have HK2 := Aside0.mk (Lk.of_below (g := g) hb); clear hg hbox hb HX; have HX := HX2; have HK := HK2; clear HX2 HK2; have hc0 := HX.out.s; have hc1 := HX.out.i; have hz1 := HX.out.fz) | ((with_reducible refine gate_dst (N := 3) rfl ?_); (try (refine gate_guard (by rfl) ?_; dsimp only)); refine box_event ?hg (N := 3) ?hd (cs := #[.int .i64 0, .int .i64 0, .string (⟨#[]⟩ : ByteArray), .string (⟨#[]⟩ : ByteArray)]) (t := 29) ?hr ?_; (case hd => rfl); (case hg => rfl); (case hr => first | (go_simp; done) | (go_simp; rfl)); intro b3 hg w3 hbox hb; have HG3 := Aside0.mk hg; have K2L := Aside0.mk (Tk.lt K2.out); have K3 := Aside0.mk (show Tk w3 b3 0 0 ⟨#[]⟩ ⟨#[]⟩ from hbox); have HX2 := Aside0.mk (Lx.below HX.out hb); have HK2 := Aside0.mk (Lk.call HK.out hb); have K22 := Aside0.mk (Tk.call K2.out hb); clear hg hbox hb HX HK K2; have HX := HX2; have HK := HK2; have K2 := K22; clear HX2 HK2 K22; have ht0 := K3.out.c0; have ht1 := K3.out.c1; have ht2 := K3.out.c2; have ht3 := K3.out.c3; have hf0 := K3.out.fz 0; have hf1 := K3.out.fz 1; have hf2 := K3.out.fz 2; have hf3 := K3.out.fz 3))
            have HS2 := Aside0.mk (show w.heap.size ≤ b2 by rw [HG2.out]; exact Nat.le_refl _)
            have HS3 := Aside0.mk (show b2 < b3 by rw [HG3.out]; exact K2L.out)
            have N1 := Aside0.mk (show g ≠ b2 by have := HS2.out; have := HG.out; omega)
            have N2 := Aside0.mk (show g ≠ b3 by have := HS2.out; have := HS3.out; have := HG.out; omega)
            have N3 := Aside0.mk (show b2 ≠ b3 by have := HS3.out; omega)
            have HB3 := Aside0.mk (show w.heap.size ≤ b3 by have := HS2.out; have := HS3.out; omega)
            have HX4 : Aside0 (Lx ((((w3.setCell ⟨b3, 0, none⟩ (.int .i64 0)).setCell ⟨b3, 1, none⟩ (.int .i64 (i : Int))).setCell ⟨b3, 2, none⟩ (.string (⟨#[]⟩ : ByteArray))).setCell ⟨b3, 3, none⟩ (.string (⟨#[]⟩ : ByteArray))) g s i) := ⟨Lx.far (Lx.far (Lx.far (Lx.far HX.out N2.out _ _) N2.out _ _) N2.out _ _) N2.out _ _⟩
            have HK4 : Aside0 (Lk g w ((((w3.setCell ⟨b3, 0, none⟩ (.int .i64 0)).setCell ⟨b3, 1, none⟩ (.int .i64 (i : Int))).setCell ⟨b3, 2, none⟩ (.string (⟨#[]⟩ : ByteArray))).setCell ⟨b3, 3, none⟩ (.string (⟨#[]⟩ : ByteArray)))) := ⟨Lk.setN (Lk.setN (Lk.setN (Lk.setN HK.out HB3.out _ _) HB3.out _ _) HB3.out _ _) HB3.out _ _⟩
            have K24 : Aside0 (Tk ((((w3.setCell ⟨b3, 0, none⟩ (.int .i64 0)).setCell ⟨b3, 1, none⟩ (.int .i64 (i : Int))).setCell ⟨b3, 2, none⟩ (.string (⟨#[]⟩ : ByteArray))).setCell ⟨b3, 3, none⟩ (.string (⟨#[]⟩ : ByteArray))) b2 0 0 ⟨#[]⟩ ⟨#[]⟩) := ⟨Tk.far (Tk.far (Tk.far (Tk.far K2.out N3.out _ _) N3.out _ _) N3.out _ _) N3.out _ _⟩
            have K34 : Aside0 (Tk ((((w3.setCell ⟨b3, 0, none⟩ (.int .i64 0)).setCell ⟨b3, 1, none⟩ (.int .i64 (i : Int))).setCell ⟨b3, 2, none⟩ (.string (⟨#[]⟩ : ByteArray))).setCell ⟨b3, 3, none⟩ (.string (⟨#[]⟩ : ByteArray))) b3 0 (i : Int) ⟨#[]⟩ ⟨#[]⟩) := ⟨Tk.set3 (Tk.set2 (Tk.set1 (Tk.set0 K3.out _) _) _) _⟩
            clear HX HK K2 K3 hc0 hc1 hz1 ht0 ht1 ht2 ht3 hf0 hf1 hf2 hf3
            generalize ((((w3.setCell ⟨b3, 0, none⟩ (.int .i64 0)).setCell ⟨b3, 1, none⟩ (.int .i64 (i : Int))).setCell ⟨b3, 2, none⟩ (.string (⟨#[]⟩ : ByteArray))).setCell ⟨b3, 3, none⟩ (.string (⟨#[]⟩ : ByteArray))) = w4 at HX4 HK4 K24 K34 ⊢
            have hc0 := HX4.out.s
            have hc1 := HX4.out.i
            go_wp2
            refine wp_region_quiet_lit (by kernel_rfl) (by kernel_rfl) ?_
            repeat (go_big_quiet_step (fail))
            refine wpQuiet_nil ?_
            intro _ hw'
            obtain ⟨nq, hw''⟩ := hw'
            subst hw''
            go_wp2
            have HX5 : Aside0 (Lx (w4.drewN nq).drew g s i) := ⟨HX4.out⟩
            have HK5 : Aside0 (Lk g w (w4.drewN nq).drew) := ⟨(HK4.out.drewN nq).drew⟩
            have K25 : Aside0 (Tk (w4.drewN nq).drew b2 0 0 ⟨#[]⟩ ⟨#[]⟩) := ⟨K24.out⟩
            have K35 : Aside0 (Tk (w4.drewN nq).drew b3 0 (i : Int) ⟨#[]⟩ ⟨#[]⟩) := ⟨K34.out⟩
            clear HX4 HK4 K24 K34 hc0 hc1
            refine start_ (n := 11) (S := (fun w' => w'.cell? ⟨g, 0, none⟩ = some (.string s) ∧ w'.cell? ⟨g, 1, none⟩ = some (.int .i64 (i : Int)))) (ds := []) #[false, false, false, false, false, false, false, false, false, false, false] (by kernel_rfl) rfl rfl ⟨HX5.out.s, HX5.out.i⟩ (fun hHeld => ?_)
            refine with_tabW lexer_word.tab4 lexer_word.bits4 (fun HT_ HW_ => ?_)
            generalize (w4.drewN nq).drew = w5 at HX5 HK5 K25 K35 hHeld ⊢
            refine pus_ 0 (some 21) #[true, false, false, false, false, false, false, false, false, false, false] rfl rfl HT_.out ?_
            refine pus_ 1 (some 22) #[true, true, false, false, false, false, false, false, false, false, false] rfl rfl HT_.out ?_
            refine pus_ 2 (some 23) #[true, true, true, false, false, false, false, false, false, false, false] rfl rfl HT_.out ?_
            refine tas_ 3 (some 24) #[true, true, true, true, false, false, false, false, false, false, false] rfl rfl HT_.out HW_.out hHeld ?_
            refine pus_ 4 (some 25) #[true, true, true, true, true, false, false, false, false, false, false] rfl rfl HT_.out ?_
            refine pus_ 5 (some 26) #[true, true, true, true, true, true, false, false, false, false, false] rfl rfl HT_.out ?_
            refine pus_ 6 (some 27) #[true, true, true, true, true, true, true, false, false, false, false] rfl rfl HT_.out ?_
            refine tas_ 7 (some 28) #[true, true, true, true, true, true, true, true, false, false, false] rfl rfl HT_.out HW_.out hHeld ?_
            refine pus_ 8 (some 29) #[true, true, true, true, true, true, true, true, true, false, false] rfl rfl HT_.out ?_
            refine one_ (i := 9) (N := (some 30)) #[true, true, true, true, true, true, true, true, true, true, false] rfl rfl (one_of HT_.out (by kernel_rfl)) (by decide) (fun K hK => ?_)
            refine goes_ Try.func14 (by kernel_rfl) rfl #[.string (s.extract i s.size)] (by rfl) rfl rfl goa_ ?_
            refine (number_Scan.calls _ n _ A1.out).mono ?_
            rintro e w6 ⟨rfl, hb⟩
            refine ⟨_, rfl, ?_⟩
            have HX := Aside0.mk (HX5.out.below hb)
            have HK := Aside0.mk (HK5.out.call hb)
            have K2 := Aside0.mk (K25.out.call hb)
            have K3 := Aside0.mk (K35.out.call hb)
            clear hb HX5 HK5 K25 K35
            refine hK.out _ _ ⟨HX.out.s, HX.out.i⟩ (fun hHeld => ?_)
            clear hK K
            refine norm_ (a' := ?_) ?_ ?_
            rotate_left
            ·show Act.put _ (some 30) _ = _
             simp only [Act.put, List.setIfInBounds_toArray, List.set_cons_zero, List.set_cons_succ, i64_w, i32_w]
             rfl
            refine pus_ 10 (some 6) #[true, true, true, true, true, true, true, true, true, true, true] rfl rfl HT_.out ?_
            refine done_ (done_of HT_.out (by kernel_rfl)) ?_
            clear hHeld HT_ HW_
            have hc0 := HX.out.s
            have hc1 := HX.out.i
            have hz1 := HX.out.fz
            have ht0 := K3.out.c0
            have ht1 := K3.out.c1
            have ht2 := K3.out.c2
            have ht3 := K3.out.c3
            have hf0 := K3.out.fz 0
            have hf1 := K3.out.fz 1
            have hf2 := K3.out.fz 2
            have hf3 := K3.out.fz 3
            have hne := N2.out
            have hne2 := N2.out.symm
            have hne3 := N1.out
            have hne4 := N1.out.symm
            have hne5 := N3.out
            have hne6 := N3.out.symm
            go_wp2_with (first | (go_at_call 17; with_reducible refine (begins_calls k s g i HS.out HII.out _ _ ?lx A2.out).mono ?_; (case lx => exact (by repeat (first | (with_reducible first | exact HX.out | apply Lx.drewN | apply Lx.drew | apply Lx.set | apply lx_far N2.out)))); rintro e wb ⟨rfl, hb⟩; have HXn := Aside0.mk (Lx.below (by repeat (first | (with_reducible first | exact HX.out | apply Lx.drewN | apply Lx.drew | apply Lx.set | apply lx_far N2.out))) hb); have HKn := Aside0.mk (Lk.call (by repeat (first | (with_reducible first | exact HK.out | apply Lk.drewN | apply Lk.drew | apply Lk.set | apply lk_setN HB3.out))) hb); have K2n := Aside0.mk (Tk.call (by repeat (first | (with_reducible first | exact K2.out | apply Tk.drewN | apply Tk.drew | apply tk_far N1.out.symm | apply tk_far N3.out))) hb); have K3n := Aside0.mk (Tk.call (by repeat (first | (with_reducible first | exact K3.out | apply Tk.drewN | apply Tk.drew | apply tk_far N2.out.symm))) hb); clear hb; clear HX HK K2 K3; have HX := HXn; have HK := HKn; have K2 := K2n; have K3 := K3n; clear HXn HKn K2n K3n; have hc0 := HX.out.s; have hc1 := HX.out.i; have hz1 := HX.out.fz; have ht0 := K3.out.c0; have ht1 := K3.out.c1; have ht2 := K3.out.c2; have ht3 := K3.out.c3; have hf0 := K3.out.fz 0; have hf1 := K3.out.fz 1; have hf2 := K3.out.fz 2; have hf3 := K3.out.fz 3; have hr0 := K2.out.c0; have hr1 := K2.out.c1; have hr2 := K2.out.c2; have hr3 := K2.out.c3; have hs0 := K2.out.fz 0; have hs1 := K2.out.fz 1; have hs2 := K2.out.fz 2; have hs3 := K2.out.fz 3) | (go_at_call 21; refine (strings_IndexByte.calls _ _ _ _ A3.out).mono ?_; rintro e wq ⟨rfl, ⟨nx, rfl⟩⟩) | (go_at_call 10; with_reducible refine (fail_calls g _ 30 _).mono ?_; rintro e wf ⟨rfl, rfl⟩))
            exact ⟨rfl, rfl, (by repeat (first | (with_reducible first | exact HK.out | apply Lk.drewN | apply Lk.drew | apply Lk.set | apply lk_setN HB3.out)))⟩
      · rw [if_pos rfl] at hf
        obtain ⟨⟨l, e⟩, ht, hf⟩ := Option.bind_eq_some_iff.mp hf
        have A4 := Aside0.mk ht
        clear ht
        try dsimp only at hf
        by_cases h3 : l.length ≤ 64
        · rw [if_pos h3] at hf
          cases hf
        · rw [if_neg h3] at hf
          by_cases h5 : e ≤ s.size
          · rw [if_pos h5] at hf
            obtain ⟨p, hp, hf⟩ := Option.bind_eq_some_iff.mp hf
            have A5 := Aside0.mk hp
            clear hp
            obtain rfl := Option.some.inj hf
            obtain ⟨x, hx⟩ : ∃ x : ByteArray, (⟨l.toArray⟩ : ByteArray) = x := ⟨_, rfl⟩
            have HTX := Aside0.mk hx
            have hxs : 64 < x.size := by
              rw [← hx]
              show 64 < l.toArray.size
              rw [List.size_toArray]
              omega
            have p8 : decide ((x.size : Int) > 64) = true := decide_eq_true (by omega)
            have p9 : decide (64 < (x.size : Int)) = true := decide_eq_true (by omega)
            have HE := Aside0.mk h5
            have HWE := Aside0.mk (show IntKind.i64.wrap (e : Int) = (e : Int) from wrapE e 0 (by have := HE.out; have := HS.out; omega))
            have hwe1 : wrap64 ((e : Int) + 1) = ((e + 1 : Nat) : Int) := by have := HE.out; have := HS.out; unfold wrap64; omega
            clear hf h3 h5 hx hxs
            cases p
            · go_enter Try.func9, Try.ntmps9
              go_wp2_with (first | ((with_reducible refine gate_dst (N := 2) rfl ?_); (try (refine gate_guard (by rfl) ?_; dsimp only)); refine box_event ?hg (N := 2) ?hd (cs := #[.int .i64 0, .int .i64 0, .string (⟨#[]⟩ : ByteArray), .string (⟨#[]⟩ : ByteArray)]) (t := 29) ?hr ?_; (case hd => rfl); (case hg => rfl); (case hr => first | (go_simp; done) | (go_simp; rfl)); intro b2 hg w2 hbox hb; have HG2 := Aside0.mk hg; have K2 := Aside0.mk (show Tk w2 b2 0 0 ⟨#[]⟩ ⟨#[]⟩ from hbox); have HX2 := Aside0.mk (Lx.below HX.out hb); have HK2 := Aside0.mk (Lk.of_below (g := g) hb); clear hg hbox hb HX; have HX := HX2; have HK := HK2; clear HX2 HK2; have hc0 := HX.out.s; have hc1 := HX.out.i; have hz1 := HX.out.fz) | ((with_reducible refine gate_dst (N := 3) rfl ?_); (try (refine gate_guard (by rfl) ?_; dsimp only)); refine box_event ?hg (N := 3) ?hd (cs := #[.int .i64 0, .int .i64 0, .string (⟨#[]⟩ : ByteArray), .string (⟨#[]⟩ : ByteArray)]) (t := 29) ?hr ?_; (case hd => rfl); (case hg => rfl); (case hr => first | (go_simp; done) | (go_simp; rfl)); intro b3 hg w3 hbox hb; have HG3 := Aside0.mk hg; have K2L := Aside0.mk (Tk.lt K2.out); have K3 := Aside0.mk (show Tk w3 b3 0 0 ⟨#[]⟩ ⟨#[]⟩ from hbox); have HX2 := Aside0.mk (Lx.below HX.out hb); have HK2 := Aside0.mk (Lk.call HK.out hb); have K22 := Aside0.mk (Tk.call K2.out hb); clear hg hbox hb HX HK K2; have HX := HX2; have HK := HK2; have K2 := K22; clear HX2 HK2 K22; have ht0 := K3.out.c0; have ht1 := K3.out.c1; have ht2 := K3.out.c2; have ht3 := K3.out.c3; have hf0 := K3.out.fz 0; have hf1 := K3.out.fz 1; have hf2 := K3.out.fz 2; have hf3 := K3.out.fz 3))
              have HS2 := Aside0.mk (show w.heap.size ≤ b2 by rw [HG2.out]; exact Nat.le_refl _)
              have HS3 := Aside0.mk (show b2 < b3 by rw [HG3.out]; exact K2L.out)
              have N1 := Aside0.mk (show g ≠ b2 by have := HS2.out; have := HG.out; omega)
              have N2 := Aside0.mk (show g ≠ b3 by have := HS2.out; have := HS3.out; have := HG.out; omega)
              have N3 := Aside0.mk (show b2 ≠ b3 by have := HS3.out; omega)
              have HB3 := Aside0.mk (show w.heap.size ≤ b3 by have := HS2.out; have := HS3.out; omega)
              have HX4 : Aside0 (Lx ((((w3.setCell ⟨b3, 0, none⟩ (.int .i64 0)).setCell ⟨b3, 1, none⟩ (.int .i64 (i : Int))).setCell ⟨b3, 2, none⟩ (.string (⟨#[]⟩ : ByteArray))).setCell ⟨b3, 3, none⟩ (.string (⟨#[]⟩ : ByteArray))) g s i) := ⟨Lx.far (Lx.far (Lx.far (Lx.far HX.out N2.out _ _) N2.out _ _) N2.out _ _) N2.out _ _⟩
              have HK4 : Aside0 (Lk g w ((((w3.setCell ⟨b3, 0, none⟩ (.int .i64 0)).setCell ⟨b3, 1, none⟩ (.int .i64 (i : Int))).setCell ⟨b3, 2, none⟩ (.string (⟨#[]⟩ : ByteArray))).setCell ⟨b3, 3, none⟩ (.string (⟨#[]⟩ : ByteArray)))) := ⟨Lk.setN (Lk.setN (Lk.setN (Lk.setN HK.out HB3.out _ _) HB3.out _ _) HB3.out _ _) HB3.out _ _⟩
              have K24 : Aside0 (Tk ((((w3.setCell ⟨b3, 0, none⟩ (.int .i64 0)).setCell ⟨b3, 1, none⟩ (.int .i64 (i : Int))).setCell ⟨b3, 2, none⟩ (.string (⟨#[]⟩ : ByteArray))).setCell ⟨b3, 3, none⟩ (.string (⟨#[]⟩ : ByteArray))) b2 0 0 ⟨#[]⟩ ⟨#[]⟩) := ⟨Tk.far (Tk.far (Tk.far (Tk.far K2.out N3.out _ _) N3.out _ _) N3.out _ _) N3.out _ _⟩
              have K34 : Aside0 (Tk ((((w3.setCell ⟨b3, 0, none⟩ (.int .i64 0)).setCell ⟨b3, 1, none⟩ (.int .i64 (i : Int))).setCell ⟨b3, 2, none⟩ (.string (⟨#[]⟩ : ByteArray))).setCell ⟨b3, 3, none⟩ (.string (⟨#[]⟩ : ByteArray))) b3 0 (i : Int) ⟨#[]⟩ ⟨#[]⟩) := ⟨Tk.set3 (Tk.set2 (Tk.set1 (Tk.set0 K3.out _) _) _) _⟩
              clear HX HK K2 K3 hc0 hc1 hz1 ht0 ht1 ht2 ht3 hf0 hf1 hf2 hf3
              generalize ((((w3.setCell ⟨b3, 0, none⟩ (.int .i64 0)).setCell ⟨b3, 1, none⟩ (.int .i64 (i : Int))).setCell ⟨b3, 2, none⟩ (.string (⟨#[]⟩ : ByteArray))).setCell ⟨b3, 3, none⟩ (.string (⟨#[]⟩ : ByteArray))) = w4 at HX4 HK4 K24 K34 ⊢
              have hc0 := HX4.out.s
              have hc1 := HX4.out.i
              go_wp2
              refine wp_region_quiet_lit (by kernel_rfl) (by kernel_rfl) ?_
              repeat (go_big_quiet_step (fail))
              refine wpQuiet_nil ?_
              intro _ hw'
              obtain ⟨nq, hw''⟩ := hw'
              subst hw''
              go_wp2
              have HX5 : Aside0 (Lx (w4.drewN nq).drew g s i) := ⟨HX4.out⟩
              have HK5 : Aside0 (Lk g w (w4.drewN nq).drew) := ⟨(HK4.out.drewN nq).drew⟩
              have K25 : Aside0 (Tk (w4.drewN nq).drew b2 0 0 ⟨#[]⟩ ⟨#[]⟩) := ⟨K24.out⟩
              have K35 : Aside0 (Tk (w4.drewN nq).drew b3 0 (i : Int) ⟨#[]⟩ ⟨#[]⟩) := ⟨K34.out⟩
              clear HX4 HK4 K24 K34 hc0 hc1
              refine start_ (n := 11) (S := (fun w' => w'.cell? ⟨g, 0, none⟩ = some (.string s) ∧ w'.cell? ⟨g, 1, none⟩ = some (.int .i64 (i : Int)))) (ds := []) #[false, false, false, false, false, false, false, false, false, false, false] (by kernel_rfl) rfl rfl ⟨HX5.out.s, HX5.out.i⟩ (fun hHeld => ?_)
              refine with_tabW lexer_word.tab4 lexer_word.bits4 (fun HT_ HW_ => ?_)
              generalize (w4.drewN nq).drew = w5 at HX5 HK5 K25 K35 hHeld ⊢
              refine pus_ 0 (some 21) #[true, false, false, false, false, false, false, false, false, false, false] rfl rfl HT_.out ?_
              refine pus_ 1 (some 22) #[true, true, false, false, false, false, false, false, false, false, false] rfl rfl HT_.out ?_
              refine pus_ 2 (some 23) #[true, true, true, false, false, false, false, false, false, false, false] rfl rfl HT_.out ?_
              refine tas_ 3 (some 24) #[true, true, true, true, false, false, false, false, false, false, false] rfl rfl HT_.out HW_.out hHeld ?_
              refine pus_ 4 (some 25) #[true, true, true, true, true, false, false, false, false, false, false] rfl rfl HT_.out ?_
              refine pus_ 5 (some 26) #[true, true, true, true, true, true, false, false, false, false, false] rfl rfl HT_.out ?_
              refine pus_ 6 (some 27) #[true, true, true, true, true, true, true, false, false, false, false] rfl rfl HT_.out ?_
              refine tas_ 7 (some 28) #[true, true, true, true, true, true, true, true, false, false, false] rfl rfl HT_.out HW_.out hHeld ?_
              refine pus_ 8 (some 29) #[true, true, true, true, true, true, true, true, true, false, false] rfl rfl HT_.out ?_
              refine one_ (i := 9) (N := (some 30)) #[true, true, true, true, true, true, true, true, true, true, false] rfl rfl (one_of HT_.out (by kernel_rfl)) (by decide) (fun K hK => ?_)
              refine goes_ Try.func14 (by kernel_rfl) rfl #[.string (s.extract i s.size)] (by rfl) rfl rfl goa_ ?_
              refine (number_Scan.calls _ n _ A1.out).mono ?_
              rintro e w6 ⟨rfl, hb⟩
              refine ⟨_, rfl, ?_⟩
              have HX := Aside0.mk (HX5.out.below hb)
              have HK := Aside0.mk (HK5.out.call hb)
              have K2 := Aside0.mk (K25.out.call hb)
              have K3 := Aside0.mk (K35.out.call hb)
              clear hb HX5 HK5 K25 K35
              refine hK.out _ _ ⟨HX.out.s, HX.out.i⟩ (fun hHeld => ?_)
              clear hK K
              refine norm_ (a' := ?_) ?_ ?_
              rotate_left
              ·show Act.put _ (some 30) _ = _
               simp only [Act.put, List.setIfInBounds_toArray, List.set_cons_zero, List.set_cons_succ, i64_w, i32_w]
               rfl
              refine pus_ 10 (some 6) #[true, true, true, true, true, true, true, true, true, true, true] rfl rfl HT_.out ?_
              refine done_ (done_of HT_.out (by kernel_rfl)) ?_
              clear hHeld HT_ HW_
              have hc0 := HX.out.s
              have hc1 := HX.out.i
              have hz1 := HX.out.fz
              have ht0 := K3.out.c0
              have ht1 := K3.out.c1
              have ht2 := K3.out.c2
              have ht3 := K3.out.c3
              have hf0 := K3.out.fz 0
              have hf1 := K3.out.fz 1
              have hf2 := K3.out.fz 2
              have hf3 := K3.out.fz 3
              have hne := N2.out
              have hne2 := N2.out.symm
              have hne3 := N1.out
              have hne4 := N1.out.symm
              have hne5 := N3.out
              have hne6 := N3.out.symm
              go_wp2_with (first | (go_at_call 17; with_reducible refine (begins_calls k s g i HS.out HII.out _ _ ?lx A2.out).mono ?_; (case lx => exact (by repeat (first | (with_reducible first | exact HX.out | apply Lx.drewN | apply Lx.drew | apply Lx.set | apply lx_far N2.out)))); rintro e wb ⟨rfl, hb⟩; have HXn := Aside0.mk (Lx.below (by repeat (first | (with_reducible first | exact HX.out | apply Lx.drewN | apply Lx.drew | apply Lx.set | apply lx_far N2.out))) hb); have HKn := Aside0.mk (Lk.call (by repeat (first | (with_reducible first | exact HK.out | apply Lk.drewN | apply Lk.drew | apply Lk.set | apply lk_setN HB3.out))) hb); have K2n := Aside0.mk (Tk.call (by repeat (first | (with_reducible first | exact K2.out | apply Tk.drewN | apply Tk.drew | apply tk_far N1.out.symm | apply tk_far N3.out))) hb); have K3n := Aside0.mk (Tk.call (by repeat (first | (with_reducible first | exact K3.out | apply Tk.drewN | apply Tk.drew | apply tk_far N2.out.symm))) hb); clear hb; clear HX HK K2 K3; have HX := HXn; have HK := HKn; have K2 := K2n; have K3 := K3n; clear HXn HKn K2n K3n; have hc0 := HX.out.s; have hc1 := HX.out.i; have hz1 := HX.out.fz; have ht0 := K3.out.c0; have ht1 := K3.out.c1; have ht2 := K3.out.c2; have ht3 := K3.out.c3; have hf0 := K3.out.fz 0; have hf1 := K3.out.fz 1; have hf2 := K3.out.fz 2; have hf3 := K3.out.fz 3; have hr0 := K2.out.c0; have hr1 := K2.out.c1; have hr2 := K2.out.c2; have hr3 := K2.out.c3; have hs0 := K2.out.fz 0; have hs1 := K2.out.fz 1; have hs2 := K2.out.fz 2; have hs3 := K2.out.fz 3) | (go_at_call 18; with_reducible refine (ident_calls k s g i _ _ HS.out HII.out _ ?lx A4.out).mono ?_; (case lx => exact (by repeat (first | (with_reducible first | exact HX.out | apply Lx.drewN | apply Lx.drew | apply Lx.set | apply lx_far N2.out)))); rintro e wd ⟨rfl, hx, hk⟩; rw [HTX.out]; have HXn := Aside0.mk hx; have HKn := Aside0.mk (Lk.trans (by repeat (first | (with_reducible first | exact HK.out | apply Lk.drewN | apply Lk.drew | apply Lk.set | apply lk_setN HB3.out))) hk); have K2n := Aside0.mk (Tk.lk (by repeat (first | (with_reducible first | exact K2.out | apply Tk.drewN | apply Tk.drew | apply tk_far N1.out.symm | apply tk_far N3.out))) hk N1.out.symm); have K3n := Aside0.mk (Tk.lk (by repeat (first | (with_reducible first | exact K3.out | apply Tk.drewN | apply Tk.drew | apply tk_far N2.out.symm))) hk N2.out.symm); clear hx hk; clear HX HK K2 K3; have HX := HXn; have HK := HKn; have K2 := K2n; have K3 := K3n; clear HXn HKn K2n K3n; have hc0 := HX.out.s; have hc1 := HX.out.i; have hz1 := HX.out.fz; have ht0 := K3.out.c0; have ht1 := K3.out.c1; have ht2 := K3.out.c2; have ht3 := K3.out.c3; have hf0 := K3.out.fz 0; have hf1 := K3.out.fz 1; have hf2 := K3.out.fz 2; have hf3 := K3.out.fz 3; have hr0 := K2.out.c0; have hr1 := K2.out.c1; have hr2 := K2.out.c2; have hr3 := K2.out.c3; have hs0 := K2.out.fz 0; have hs1 := K2.out.fz 1; have hs2 := K2.out.fz 2; have hs3 := K2.out.fz 3) | (go_at_call 15; with_reducible refine (is_paren0 s g e e HS.out HWE.out _ _ ?lx A5.out).mono ?_; (case lx => exact (by repeat (first | (with_reducible first | exact HX.out | apply Lx.drewN | apply Lx.drew | apply Lx.set | apply lx_far N2.out)))); rintro e wi ⟨rfl, ⟨ni, rfl⟩⟩) | (go_at_call 10; with_reducible refine (fail_calls g _ 52 _).mono ?_; rintro e wf ⟨rfl, rfl⟩))
              exact ⟨rfl, rfl, (by repeat (first | (with_reducible first | exact HK.out | apply Lk.drewN | apply Lk.drew | apply Lk.set | apply lk_setN HB3.out)))⟩
            · go_enter Try.func9, Try.ntmps9
              go_wp2_with (first | ((with_reducible refine gate_dst (N := 2) rfl ?_); (try (refine gate_guard (by rfl) ?_; dsimp only)); refine box_event ?hg (N := 2) ?hd (cs := #[.int .i64 0, .int .i64 0, .string (⟨#[]⟩ : ByteArray), .string (⟨#[]⟩ : ByteArray)]) (t := 29) ?hr ?_; (case hd => rfl); (case hg => rfl); (case hr => first | (go_simp; done) | (go_simp; rfl)); intro b2 hg w2 hbox hb; have HG2 := Aside0.mk hg; have K2 := Aside0.mk (show Tk w2 b2 0 0 ⟨#[]⟩ ⟨#[]⟩ from hbox); have HX2 := Aside0.mk (Lx.below HX.out hb); have HK2 := Aside0.mk (Lk.of_below (g := g) hb); clear hg hbox hb HX; have HX := HX2; have HK := HK2; clear HX2 HK2; have hc0 := HX.out.s; have hc1 := HX.out.i; have hz1 := HX.out.fz) | ((with_reducible refine gate_dst (N := 3) rfl ?_); (try (refine gate_guard (by rfl) ?_; dsimp only)); refine box_event ?hg (N := 3) ?hd (cs := #[.int .i64 0, .int .i64 0, .string (⟨#[]⟩ : ByteArray), .string (⟨#[]⟩ : ByteArray)]) (t := 29) ?hr ?_; (case hd => rfl); (case hg => rfl); (case hr => first | (go_simp; done) | (go_simp; rfl)); intro b3 hg w3 hbox hb; have HG3 := Aside0.mk hg; have K2L := Aside0.mk (Tk.lt K2.out); have K3 := Aside0.mk (show Tk w3 b3 0 0 ⟨#[]⟩ ⟨#[]⟩ from hbox); have HX2 := Aside0.mk (Lx.below HX.out hb); have HK2 := Aside0.mk (Lk.call HK.out hb); have K22 := Aside0.mk (Tk.call K2.out hb); clear hg hbox hb HX HK K2; have HX := HX2; have HK := HK2; have K2 := K22; clear HX2 HK2 K22; have ht0 := K3.out.c0; have ht1 := K3.out.c1; have ht2 := K3.out.c2; have ht3 := K3.out.c3; have hf0 := K3.out.fz 0; have hf1 := K3.out.fz 1; have hf2 := K3.out.fz 2; have hf3 := K3.out.fz 3))
              have HS2 := Aside0.mk (show w.heap.size ≤ b2 by rw [HG2.out]; exact Nat.le_refl _)
              have HS3 := Aside0.mk (show b2 < b3 by rw [HG3.out]; exact K2L.out)
              have N1 := Aside0.mk (show g ≠ b2 by have := HS2.out; have := HG.out; omega)
              have N2 := Aside0.mk (show g ≠ b3 by have := HS2.out; have := HS3.out; have := HG.out; omega)
              have N3 := Aside0.mk (show b2 ≠ b3 by have := HS3.out; omega)
              have HB3 := Aside0.mk (show w.heap.size ≤ b3 by have := HS2.out; have := HS3.out; omega)
              have HX4 : Aside0 (Lx ((((w3.setCell ⟨b3, 0, none⟩ (.int .i64 0)).setCell ⟨b3, 1, none⟩ (.int .i64 (i : Int))).setCell ⟨b3, 2, none⟩ (.string (⟨#[]⟩ : ByteArray))).setCell ⟨b3, 3, none⟩ (.string (⟨#[]⟩ : ByteArray))) g s i) := ⟨Lx.far (Lx.far (Lx.far (Lx.far HX.out N2.out _ _) N2.out _ _) N2.out _ _) N2.out _ _⟩
              have HK4 : Aside0 (Lk g w ((((w3.setCell ⟨b3, 0, none⟩ (.int .i64 0)).setCell ⟨b3, 1, none⟩ (.int .i64 (i : Int))).setCell ⟨b3, 2, none⟩ (.string (⟨#[]⟩ : ByteArray))).setCell ⟨b3, 3, none⟩ (.string (⟨#[]⟩ : ByteArray)))) := ⟨Lk.setN (Lk.setN (Lk.setN (Lk.setN HK.out HB3.out _ _) HB3.out _ _) HB3.out _ _) HB3.out _ _⟩
              have K24 : Aside0 (Tk ((((w3.setCell ⟨b3, 0, none⟩ (.int .i64 0)).setCell ⟨b3, 1, none⟩ (.int .i64 (i : Int))).setCell ⟨b3, 2, none⟩ (.string (⟨#[]⟩ : ByteArray))).setCell ⟨b3, 3, none⟩ (.string (⟨#[]⟩ : ByteArray))) b2 0 0 ⟨#[]⟩ ⟨#[]⟩) := ⟨Tk.far (Tk.far (Tk.far (Tk.far K2.out N3.out _ _) N3.out _ _) N3.out _ _) N3.out _ _⟩
              have K34 : Aside0 (Tk ((((w3.setCell ⟨b3, 0, none⟩ (.int .i64 0)).setCell ⟨b3, 1, none⟩ (.int .i64 (i : Int))).setCell ⟨b3, 2, none⟩ (.string (⟨#[]⟩ : ByteArray))).setCell ⟨b3, 3, none⟩ (.string (⟨#[]⟩ : ByteArray))) b3 0 (i : Int) ⟨#[]⟩ ⟨#[]⟩) := ⟨Tk.set3 (Tk.set2 (Tk.set1 (Tk.set0 K3.out _) _) _) _⟩
              clear HX HK K2 K3 hc0 hc1 hz1 ht0 ht1 ht2 ht3 hf0 hf1 hf2 hf3
              generalize ((((w3.setCell ⟨b3, 0, none⟩ (.int .i64 0)).setCell ⟨b3, 1, none⟩ (.int .i64 (i : Int))).setCell ⟨b3, 2, none⟩ (.string (⟨#[]⟩ : ByteArray))).setCell ⟨b3, 3, none⟩ (.string (⟨#[]⟩ : ByteArray))) = w4 at HX4 HK4 K24 K34 ⊢
              have hc0 := HX4.out.s
              have hc1 := HX4.out.i
              go_wp2
              refine wp_region_quiet_lit (by kernel_rfl) (by kernel_rfl) ?_
              repeat (go_big_quiet_step (fail))
              refine wpQuiet_nil ?_
              intro _ hw'
              obtain ⟨nq, hw''⟩ := hw'
              subst hw''
              go_wp2
              have HX5 : Aside0 (Lx (w4.drewN nq).drew g s i) := ⟨HX4.out⟩
              have HK5 : Aside0 (Lk g w (w4.drewN nq).drew) := ⟨(HK4.out.drewN nq).drew⟩
              have K25 : Aside0 (Tk (w4.drewN nq).drew b2 0 0 ⟨#[]⟩ ⟨#[]⟩) := ⟨K24.out⟩
              have K35 : Aside0 (Tk (w4.drewN nq).drew b3 0 (i : Int) ⟨#[]⟩ ⟨#[]⟩) := ⟨K34.out⟩
              clear HX4 HK4 K24 K34 hc0 hc1
              refine start_ (n := 11) (S := (fun w' => w'.cell? ⟨g, 0, none⟩ = some (.string s) ∧ w'.cell? ⟨g, 1, none⟩ = some (.int .i64 (i : Int)))) (ds := []) #[false, false, false, false, false, false, false, false, false, false, false] (by kernel_rfl) rfl rfl ⟨HX5.out.s, HX5.out.i⟩ (fun hHeld => ?_)
              refine with_tabW lexer_word.tab4 lexer_word.bits4 (fun HT_ HW_ => ?_)
              generalize (w4.drewN nq).drew = w5 at HX5 HK5 K25 K35 hHeld ⊢
              refine pus_ 0 (some 21) #[true, false, false, false, false, false, false, false, false, false, false] rfl rfl HT_.out ?_
              refine pus_ 1 (some 22) #[true, true, false, false, false, false, false, false, false, false, false] rfl rfl HT_.out ?_
              refine pus_ 2 (some 23) #[true, true, true, false, false, false, false, false, false, false, false] rfl rfl HT_.out ?_
              refine tas_ 3 (some 24) #[true, true, true, true, false, false, false, false, false, false, false] rfl rfl HT_.out HW_.out hHeld ?_
              refine pus_ 4 (some 25) #[true, true, true, true, true, false, false, false, false, false, false] rfl rfl HT_.out ?_
              refine pus_ 5 (some 26) #[true, true, true, true, true, true, false, false, false, false, false] rfl rfl HT_.out ?_
              refine pus_ 6 (some 27) #[true, true, true, true, true, true, true, false, false, false, false] rfl rfl HT_.out ?_
              refine tas_ 7 (some 28) #[true, true, true, true, true, true, true, true, false, false, false] rfl rfl HT_.out HW_.out hHeld ?_
              refine pus_ 8 (some 29) #[true, true, true, true, true, true, true, true, true, false, false] rfl rfl HT_.out ?_
              refine one_ (i := 9) (N := (some 30)) #[true, true, true, true, true, true, true, true, true, true, false] rfl rfl (one_of HT_.out (by kernel_rfl)) (by decide) (fun K hK => ?_)
              refine goes_ Try.func14 (by kernel_rfl) rfl #[.string (s.extract i s.size)] (by rfl) rfl rfl goa_ ?_
              refine (number_Scan.calls _ n _ A1.out).mono ?_
              rintro e w6 ⟨rfl, hb⟩
              refine ⟨_, rfl, ?_⟩
              have HX := Aside0.mk (HX5.out.below hb)
              have HK := Aside0.mk (HK5.out.call hb)
              have K2 := Aside0.mk (K25.out.call hb)
              have K3 := Aside0.mk (K35.out.call hb)
              clear hb HX5 HK5 K25 K35
              refine hK.out _ _ ⟨HX.out.s, HX.out.i⟩ (fun hHeld => ?_)
              clear hK K
              refine norm_ (a' := ?_) ?_ ?_
              rotate_left
              ·show Act.put _ (some 30) _ = _
               simp only [Act.put, List.setIfInBounds_toArray, List.set_cons_zero, List.set_cons_succ, i64_w, i32_w]
               rfl
              refine pus_ 10 (some 6) #[true, true, true, true, true, true, true, true, true, true, true] rfl rfl HT_.out ?_
              refine done_ (done_of HT_.out (by kernel_rfl)) ?_
              clear hHeld HT_ HW_
              have hc0 := HX.out.s
              have hc1 := HX.out.i
              have hz1 := HX.out.fz
              have ht0 := K3.out.c0
              have ht1 := K3.out.c1
              have ht2 := K3.out.c2
              have ht3 := K3.out.c3
              have hf0 := K3.out.fz 0
              have hf1 := K3.out.fz 1
              have hf2 := K3.out.fz 2
              have hf3 := K3.out.fz 3
              have hne := N2.out
              have hne2 := N2.out.symm
              have hne3 := N1.out
              have hne4 := N1.out.symm
              have hne5 := N3.out
              have hne6 := N3.out.symm
              go_wp2_with (first | (go_at_call 17; with_reducible refine (begins_calls k s g i HS.out HII.out _ _ ?lx A2.out).mono ?_; (case lx => exact (by repeat (first | (with_reducible first | exact HX.out | apply Lx.drewN | apply Lx.drew | apply Lx.set | apply lx_far N2.out)))); rintro e wb ⟨rfl, hb⟩; have HXn := Aside0.mk (Lx.below (by repeat (first | (with_reducible first | exact HX.out | apply Lx.drewN | apply Lx.drew | apply Lx.set | apply lx_far N2.out))) hb); have HKn := Aside0.mk (Lk.call (by repeat (first | (with_reducible first | exact HK.out | apply Lk.drewN | apply Lk.drew | apply Lk.set | apply lk_setN HB3.out))) hb); have K2n := Aside0.mk (Tk.call (by repeat (first | (with_reducible first | exact K2.out | apply Tk.drewN | apply Tk.drew | apply tk_far N1.out.symm | apply tk_far N3.out))) hb); have K3n := Aside0.mk (Tk.call (by repeat (first | (with_reducible first | exact K3.out | apply Tk.drewN | apply Tk.drew | apply tk_far N2.out.symm))) hb); clear hb; clear HX HK K2 K3; have HX := HXn; have HK := HKn; have K2 := K2n; have K3 := K3n; clear HXn HKn K2n K3n; have hc0 := HX.out.s; have hc1 := HX.out.i; have hz1 := HX.out.fz; have ht0 := K3.out.c0; have ht1 := K3.out.c1; have ht2 := K3.out.c2; have ht3 := K3.out.c3; have hf0 := K3.out.fz 0; have hf1 := K3.out.fz 1; have hf2 := K3.out.fz 2; have hf3 := K3.out.fz 3; have hr0 := K2.out.c0; have hr1 := K2.out.c1; have hr2 := K2.out.c2; have hr3 := K2.out.c3; have hs0 := K2.out.fz 0; have hs1 := K2.out.fz 1; have hs2 := K2.out.fz 2; have hs3 := K2.out.fz 3) | (go_at_call 18; with_reducible refine (ident_calls k s g i _ _ HS.out HII.out _ ?lx A4.out).mono ?_; (case lx => exact (by repeat (first | (with_reducible first | exact HX.out | apply Lx.drewN | apply Lx.drew | apply Lx.set | apply lx_far N2.out)))); rintro e wd ⟨rfl, hx, hk⟩; rw [HTX.out]; have HXn := Aside0.mk hx; have HKn := Aside0.mk (Lk.trans (by repeat (first | (with_reducible first | exact HK.out | apply Lk.drewN | apply Lk.drew | apply Lk.set | apply lk_setN HB3.out))) hk); have K2n := Aside0.mk (Tk.lk (by repeat (first | (with_reducible first | exact K2.out | apply Tk.drewN | apply Tk.drew | apply tk_far N1.out.symm | apply tk_far N3.out))) hk N1.out.symm); have K3n := Aside0.mk (Tk.lk (by repeat (first | (with_reducible first | exact K3.out | apply Tk.drewN | apply Tk.drew | apply tk_far N2.out.symm))) hk N2.out.symm); clear hx hk; clear HX HK K2 K3; have HX := HXn; have HK := HKn; have K2 := K2n; have K3 := K3n; clear HXn HKn K2n K3n; have hc0 := HX.out.s; have hc1 := HX.out.i; have hz1 := HX.out.fz; have ht0 := K3.out.c0; have ht1 := K3.out.c1; have ht2 := K3.out.c2; have ht3 := K3.out.c3; have hf0 := K3.out.fz 0; have hf1 := K3.out.fz 1; have hf2 := K3.out.fz 2; have hf3 := K3.out.fz 3; have hr0 := K2.out.c0; have hr1 := K2.out.c1; have hr2 := K2.out.c2; have hr3 := K2.out.c3; have hs0 := K2.out.fz 0; have hs1 := K2.out.fz 1; have hs2 := K2.out.fz 2; have hs3 := K2.out.fz 3) | (go_at_call 15; with_reducible refine (is_paren0 s g e e HS.out HWE.out _ _ ?lx A5.out).mono ?_; (case lx => exact (by repeat (first | (with_reducible first | exact HX.out | apply Lx.drewN | apply Lx.drew | apply Lx.set | apply lx_far N2.out)))); rintro e wi ⟨rfl, ⟨ni, rfl⟩⟩) | (go_at_call 10; with_reducible refine (fail_calls g _ 52 _).mono ?_; rintro e wf ⟨rfl, rfl⟩))
              exact ⟨rfl, rfl, (by repeat (first | (with_reducible first | exact HK.out | apply Lk.drewN | apply Lk.drew | apply Lk.set | apply lk_setN HB3.out)))⟩
          · rw [if_neg h5] at hf
            cases hf
  · rw [if_neg hlt] at hf
    cases hf
end Go.Proofs.Ytholgbdfflabhaa.Giv
end
section
namespace Go.Proofs.Ytholgbdfflabhaa.Giv
open Go.RowKit Go.Proofs.YtholgbdfflabhaaW.PrintWords Go.Proofs.YtholgbdfflabhaaW.PrintLast Go.Proofs.YtholgbdfflabhaaW.PrintMore Go.Proofs.Ytholgbdfflabhaa.PTk
open Go.Proofs.Ytholgbdfflabhaa.Opn Go.BigFrame

/-- The next word, or its error. -/
def wordE (k : Nat) (s : ByteArray) (i : Nat) : Option (Int × Int × ByteArray × ByteArray × Nat) := if i < s.size then ((number_Scan.f (s.extract i s.size)).bind fun n =>
    if n > 0 then (if i + n.toNat ≤ s.size then ((isF token_lexer_word_1.f s (i + n.toNat)).bind fun p => if p = true then some (0, 4, ⟨#[]⟩, s.extract i (i + n.toNat), i + n.toNat + 1)
      else ((begF k s (i + n.toNat)).bind fun b => if b = true then ((identF k s (i + n.toNat) []).bind fun t => if t.2 ≤ s.size then (if t.1.length ≤ 64 then some (0, 5, ⟨t.1.toArray⟩, s.extract i (i + n.toNat), t.2) else some (52, 0, (⟨#[]⟩ : ByteArray), (⟨#[]⟩ : ByteArray), 0)) else none) else some (0, 3, ⟨#[]⟩, s.extract i (i + n.toNat), i + n.toNat))) else none)
    else ((begF k s i).bind fun b => if b = true then ((identF k s i []).bind fun t => if t.2 ≤ s.size then ((isF token_lexer_word_2.f s t.2).bind fun p => if t.1.length ≤ 64 then (if p = true then some (0, 2, ⟨t.1.toArray⟩, ⟨#[]⟩, t.2 + 1) else some (0, 1, ⟨t.1.toArray⟩, ⟨#[]⟩, t.2)) else some (52, 0, (⟨#[]⟩ : ByteArray), (⟨#[]⟩ : ByteArray), 0)) else none)
      else (if bt s (i : Nat) = 34 ∨ bt s (i : Nat) = 39 then ((quotE k s (i + 1) [] (bt s (i : Nat))).bind fun r => if r.isNone = true then some (30, 0, (⟨#[]⟩ : ByteArray), (⟨#[]⟩ : ByteArray), 0) else r.bind fun t => if t.2 ≤ s.size then (if t.1.length ≤ 8192 then some (0, 6, ⟨t.1.toArray⟩, ⟨#[]⟩, t.2) else some (52, 0, (⟨#[]⟩ : ByteArray), (⟨#[]⟩ : ByteArray), 0)) else none) else ((strings_IndexByte.f (⟨#[44, 47, 58, 59, 123, 125, 91, 93, 40, 41]⟩ : ByteArray) (bt s (i : Nat))).bind fun q => if q ≥ 0 then some (0, 7, s.extract i (i + 1), ⟨#[]⟩, i + 1) else some (30, 0, (⟨#[]⟩ : ByteArray), (⟨#[]⟩ : ByteArray), 0))))) else none
theorem wordE.mono : ∀ s i k, LeO (wordE k s i) (wordE (k + 1) s i) := by
  intro s i k
  unfold wordE
  repeat' first
      | (with_reducible exact begF.mono _ _ _)
      | (with_reducible exact identF.mono _ _ _ _)
      | (with_reducible exact quotE.mono _ _ _ _ _)
      | (with_reducible exact LeO.refl _)
      | (with_reducible exact LeO.none _)
      | (with_reducible refine LeO.ite ?_ ?_)
      | (with_reducible refine LeO.bind ?_ (fun _ => ?_))
theorem wordE_ok {k : Nat} {s : ByteArray} {i : Nat} {t : Int × ByteArray × ByteArray × Nat} (h : wordE k s i = some (0, t)) : wordG k s i = some t := by
  unfold wordE at h
  unfold wordG
  by_cases h1 : i < s.size
  · rw [if_pos h1] at h ⊢
    obtain ⟨n, hn, h⟩ := Option.bind_eq_some_iff.mp h
    refine Option.bind_eq_some_iff.mpr ⟨n, hn, ?_⟩
    by_cases h2 : n > 0
    · rw [if_pos h2] at h ⊢
      by_cases h3 : i + n.toNat ≤ s.size
      · rw [if_pos h3] at h ⊢
        obtain ⟨p, hp, h⟩ := Option.bind_eq_some_iff.mp h
        refine Option.bind_eq_some_iff.mpr ⟨p, hp, ?_⟩
        cases p
        · rw [if_neg (by decide)] at h ⊢
          obtain ⟨b, hb, h⟩ := Option.bind_eq_some_iff.mp h
          refine Option.bind_eq_some_iff.mpr ⟨b, hb, ?_⟩
          cases b
          · rw [if_neg (by decide)] at h
            rw [if_neg (by decide)]
            simpa using h
          · rw [if_pos rfl] at h ⊢
            obtain ⟨u, hu, h⟩ := Option.bind_eq_some_iff.mp h
            refine Option.bind_eq_some_iff.mpr ⟨u, hu, ?_⟩
            by_cases h4 : u.2 ≤ s.size
            · rw [if_pos h4] at h
              by_cases h5 : u.1.length ≤ 64
              · rw [if_pos h5] at h
                rw [if_pos ⟨h5, h4⟩]
                simpa using h
              · rw [if_neg h5] at h
                exact absurd (show (52 : Int) = 0 from congrArg Prod.fst (Option.some.inj h)) (by decide)
            · rw [if_neg h4] at h
              cases h
        · rw [if_pos rfl] at h
          rw [if_pos rfl]
          simpa using h
      · rw [if_neg h3] at h
        cases h
    · rw [if_neg h2] at h ⊢
      obtain ⟨b, hb, h⟩ := Option.bind_eq_some_iff.mp h
      refine Option.bind_eq_some_iff.mpr ⟨b, hb, ?_⟩
      cases b
      · rw [if_neg (by decide)] at h ⊢
        by_cases h3 : bt s (i : Nat) = 34 ∨ bt s (i : Nat) = 39
        · rw [if_pos h3] at h ⊢
          obtain ⟨r, hr, h⟩ := Option.bind_eq_some_iff.mp h
          refine Option.bind_eq_some_iff.mpr ⟨r, hr, ?_⟩
          cases r with
          | none =>
            change some ((30 : Int), (0 : Int), (⟨#[]⟩ : ByteArray), (⟨#[]⟩ : ByteArray), 0) = some (0, t) at h
            exact absurd (show (30 : Int) = 0 from congrArg Prod.fst (Option.some.inj h)) (by decide)
          | some u =>
            change (if u.2 ≤ s.size then (if u.1.length ≤ 8192 then some (0, 6, ⟨u.1.toArray⟩, ⟨#[]⟩, u.2) else some (52, 0, ⟨#[]⟩, ⟨#[]⟩, 0)) else none) = some (0, t) at h
            change (if u.1.length ≤ 8192 ∧ u.2 ≤ s.size then some (6, ⟨u.1.toArray⟩, ⟨#[]⟩, u.2) else none) = some t
            by_cases h4 : u.2 ≤ s.size
            · rw [if_pos h4] at h
              by_cases h5 : u.1.length ≤ 8192
              · rw [if_pos h5] at h
                rw [if_pos ⟨h5, h4⟩]
                simpa using h
              · rw [if_neg h5] at h
                exact absurd (show (52 : Int) = 0 from congrArg Prod.fst (Option.some.inj h)) (by decide)
            · rw [if_neg h4] at h
              cases h
        · rw [if_neg h3] at h ⊢
          obtain ⟨q, hq, h⟩ := Option.bind_eq_some_iff.mp h
          refine Option.bind_eq_some_iff.mpr ⟨q, hq, ?_⟩
          by_cases h6 : q ≥ 0
          · rw [if_pos h6] at h ⊢
            simpa using h
          · rw [if_neg h6] at h
            exact absurd (show (30 : Int) = 0 from congrArg Prod.fst (Option.some.inj h)) (by decide)
      · rw [if_pos rfl] at h ⊢
        obtain ⟨u, hu, h⟩ := Option.bind_eq_some_iff.mp h
        refine Option.bind_eq_some_iff.mpr ⟨u, hu, ?_⟩
        by_cases h4 : u.2 ≤ s.size
        · rw [if_pos h4] at h
          obtain ⟨p, hp, h⟩ := Option.bind_eq_some_iff.mp h
          by_cases h5 : u.1.length ≤ 64
          · rw [if_pos h5] at h
            rw [if_pos ⟨h5, h4⟩]
            refine Option.bind_eq_some_iff.mpr ⟨p, hp, ?_⟩
            cases p
            · rw [if_neg (by decide)] at h ⊢
              simpa using h
            · rw [if_pos rfl] at h ⊢
              simpa using h
          · rw [if_neg h5] at h
            exact absurd (show (52 : Int) = 0 from congrArg Prod.fst (Option.some.inj h)) (by decide)
        · rw [if_neg h4] at h
          cases h
  · rw [if_neg h1] at h
    cases h
theorem wordE_no {k : Nat} {s : ByteArray} {i : Nat} {c : Int} {t : Int × ByteArray × ByteArray × Nat} (h : wordE k s i = some (c, t)) (hc : c ≠ 0) : wordX k s i = some c := by
  unfold wordE at h
  unfold wordX
  by_cases h1 : i < s.size
  · rw [if_pos h1] at h ⊢
    obtain ⟨n, hn, h⟩ := Option.bind_eq_some_iff.mp h
    refine Option.bind_eq_some_iff.mpr ⟨n, hn, ?_⟩
    by_cases h2 : n > 0
    · rw [if_pos h2] at h ⊢
      by_cases h3 : i + n.toNat ≤ s.size
      · rw [if_pos h3] at h ⊢
        obtain ⟨p, hp, h⟩ := Option.bind_eq_some_iff.mp h
        refine Option.bind_eq_some_iff.mpr ⟨p, hp, ?_⟩
        cases p
        · rw [if_neg (by decide)] at h ⊢
          obtain ⟨b, hb, h⟩ := Option.bind_eq_some_iff.mp h
          refine Option.bind_eq_some_iff.mpr ⟨b, hb, ?_⟩
          cases b
          · rw [if_neg (by decide)] at h
            exact absurd (congrArg Prod.fst (Option.some.inj h)).symm hc
          · rw [if_pos rfl] at h ⊢
            obtain ⟨u, hu, h⟩ := Option.bind_eq_some_iff.mp h
            refine Option.bind_eq_some_iff.mpr ⟨u, hu, ?_⟩
            by_cases h4 : u.2 ≤ s.size
            · rw [if_pos h4] at h
              by_cases h5 : u.1.length ≤ 64
              · rw [if_pos h5] at h
                exact absurd (congrArg Prod.fst (Option.some.inj h)).symm hc
              · rw [if_neg h5] at h ⊢
                rw [if_pos h4]
                rw [show c = 52 from (congrArg Prod.fst (Option.some.inj h)).symm]
            · rw [if_neg h4] at h
              cases h
        · rw [if_pos rfl] at h
          exact absurd (congrArg Prod.fst (Option.some.inj h)).symm hc
      · rw [if_neg h3] at h
        cases h
    · rw [if_neg h2] at h ⊢
      obtain ⟨b, hb, h⟩ := Option.bind_eq_some_iff.mp h
      refine Option.bind_eq_some_iff.mpr ⟨b, hb, ?_⟩
      cases b
      · rw [if_neg (by decide)] at h ⊢
        by_cases h3 : bt s (i : Nat) = 34 ∨ bt s (i : Nat) = 39
        · rw [if_pos h3] at h ⊢
          obtain ⟨r, hr, h⟩ := Option.bind_eq_some_iff.mp h
          refine Option.bind_eq_some_iff.mpr ⟨r, hr, ?_⟩
          cases r with
          | none =>
            change some ((30 : Int), (0 : Int), (⟨#[]⟩ : ByteArray), (⟨#[]⟩ : ByteArray), 0) = some (c, t) at h
            change some (30 : Int) = some c
            rw [show c = 30 from (congrArg Prod.fst (Option.some.inj h)).symm]
          | some u =>
            change (if u.2 ≤ s.size then (if u.1.length ≤ 8192 then some (0, 6, ⟨u.1.toArray⟩, ⟨#[]⟩, u.2) else some (52, 0, ⟨#[]⟩, ⟨#[]⟩, 0)) else none) = some (c, t) at h
            change (if u.1.length ≤ 8192 then none else if u.2 ≤ s.size then some 52 else none) = some c
            by_cases h4 : u.2 ≤ s.size
            · rw [if_pos h4] at h
              by_cases h5 : u.1.length ≤ 8192
              · rw [if_pos h5] at h
                exact absurd (congrArg Prod.fst (Option.some.inj h)).symm hc
              · rw [if_neg h5] at h ⊢
                rw [if_pos h4]
                rw [show c = 52 from (congrArg Prod.fst (Option.some.inj h)).symm]
            · rw [if_neg h4] at h
              cases h
        · rw [if_neg h3] at h ⊢
          obtain ⟨q, hq, h⟩ := Option.bind_eq_some_iff.mp h
          refine Option.bind_eq_some_iff.mpr ⟨q, hq, ?_⟩
          by_cases h6 : q ≥ 0
          · rw [if_pos h6] at h
            exact absurd (congrArg Prod.fst (Option.some.inj h)).symm hc
          · rw [if_neg h6] at h ⊢
            rw [show c = 30 from (congrArg Prod.fst (Option.some.inj h)).symm]
      · rw [if_pos rfl] at h ⊢
        obtain ⟨u, hu, h⟩ := Option.bind_eq_some_iff.mp h
        refine Option.bind_eq_some_iff.mpr ⟨u, hu, ?_⟩
        by_cases h4 : u.2 ≤ s.size
        · rw [if_pos h4] at h
          obtain ⟨p, hp, h⟩ := Option.bind_eq_some_iff.mp h
          by_cases h5 : u.1.length ≤ 64
          · rw [if_pos h5] at h
            cases p
            · rw [if_neg (by decide)] at h
              exact absurd (congrArg Prod.fst (Option.some.inj h)).symm hc
            · rw [if_pos rfl] at h
              exact absurd (congrArg Prod.fst (Option.some.inj h)).symm hc
          · rw [if_neg h5] at h ⊢
            rw [if_pos h4]
            refine Option.bind_eq_some_iff.mpr ⟨p, hp, ?_⟩
            rw [show c = 52 from (congrArg Prod.fst (Option.some.inj h)).symm]
        · rw [if_neg h4] at h
          cases h
  · rw [if_neg h1] at h
    cases h
end Go.Proofs.Ytholgbdfflabhaa.Giv
end
section
namespace Go.Proofs.Ytholgbdfflabhaa.Giv
open Go.RowKit Go.Proofs.YtholgbdfflabhaaW.PrintWords Go.Proofs.YtholgbdfflabhaaW.PrintLast Go.Proofs.YtholgbdfflabhaaW.PrintMore Go.Proofs.Ytholgbdfflabhaa.PTk
open Go.Proofs.Ytholgbdfflabhaa.Opn Go.BigFrame

set_option maxHeartbeats 400000 in
set_option maxRecDepth 100000 in
theorem tokens_caught (B bo ba be i : Nat) (c : Int) (v : Value) (w : World) (ho : w.heap[bo]? = some (.cells #[v] 24 (0, 0))) (ha : w.heap[ba]? = some (.cells #[.int .i64 0] 3 (0, 0))) (he : w.heap[be]? = some (.cells #[.int .i64 0] 25 (0, 0))) (h1 : bo < ba) (h2 : ba < be) (hB : B ≤ bo) :
    CallsD Try.prog 7 #[.pointer (some ⟨bo, 0, none⟩), .pointer (some ⟨ba, 0, none⟩), .pointer (some ⟨be, 0, none⟩)] (.panicking [{ v := faultV i c, recovered := false }]) w fun e u' w' => e = .returned (.tuple #[]) ∧ u' = .panicking [{ v := faultV i c, recovered := true }] ∧
      (w'.cell? ⟨bo, 0, none⟩ = some (.slice none 0 0) ∧ w'.cell? ⟨ba, 0, none⟩ = some (.int .i64 (i : Int)) ∧ w'.cell? ⟨be, 0, none⟩ = some (.int .i64 c) ∧ Below B w w') := by
  have huF := Try.underlying33
  have hlt0 := (Array.getElem?_eq_some_iff.1 ho).1
  have hlt1 := (Array.getElem?_eq_some_iff.1 ha).1
  have hlt2 := (Array.getElem?_eq_some_iff.1 he).1
  have hta : ∀ (v : Value) (W : World), (Instr.typeAssert (.iface 33 v) 20 33 true).run Try.prog W = .ok (.tuple #[v, .bool true]) W := fun _ _ => by kernel_rfl
  refine callsD_of_wpS Try.func7 rfl fun c₀ cs hu => ?_
  apply wpS_seq
  apply wpS_region
  simp [wpOpsS, go_sem, recoverD, hu, Try.ntmps7, Exit.thenS]
  apply wpS_seq
  apply wpS_region
  simp [wpOpsS, go_sem, recoverD, Try.ntmps7, Exit.thenS, faultV]
  refine wpS_cond (t := true) (by simp [Act.eval, Array.replicate]) ?_
  simp only [if_true]
  have e : ∀ V : Value, (#[Value.pointer (some ⟨bo, 0, none⟩), Value.pointer (some ⟨ba, 0, none⟩), Value.pointer (some ⟨be, 0, none⟩)] ++ ((((Array.replicate 18 undef).setIfInBounds 3 V).setIfInBounds 0 V).setIfInBounds 4 V).setIfInBounds 5 (Value.bool true)) = #[Value.pointer (some ⟨bo, 0, none⟩), Value.pointer (some ⟨ba, 0, none⟩), Value.pointer (some ⟨be, 0, none⟩), V, undef, undef, V, V, Value.bool true, undef, undef, undef, undef, undef, undef, undef, undef, undef, undef, undef, undef] := fun V => by first | kernel_rfl | (simp [Array.replicate, List.replicate]; done)
  rw [e]
  clear e hu
  refine wpS_of_wp ?_
  generalize hG : (bodyPostS Try.prog Try.f7 c₀ cs _) = G
  go_wp2
  have HO := Aside0.mk (blk_alloc ho (.cells #[.int .i64 (i : Int), .int .i64 c] 33))
  have HA := Aside0.mk (blk_alloc ha (.cells #[.int .i64 (i : Int), .int .i64 c] 33))
  have HE := Aside0.mk (blk_alloc he (.cells #[.int .i64 (i : Int), .int .i64 c] 33))
  have hn : (w.alloc (.cells #[.int .i64 (i : Int), .int .i64 c] 33)).heap[w.heap.size]? = some (.cells #[.int .i64 (i : Int), .int .i64 c] 33 (0, 0)) := by
    show (w.heap.push _)[w.heap.size]? = _
    exact Array.getElem?_push_size
  have hb : Aside0 (Below w.heap.size w (w.alloc (.cells #[.int .i64 (i : Int), .int .i64 c] 33))) := ⟨below_alloc (Below.refl _ _) _⟩
  have HL := Aside0.mk (show bo < w.heap.size ∧ ba < w.heap.size ∧ be < w.heap.size ∧ bo < ba ∧ ba < be ∧ B ≤ bo from ⟨hlt0, hlt1, hlt2, h1, h2, hB⟩)
  clear ho ha he hlt0 hlt1 hlt2 h1 h2 hB
  generalize hW : (w.alloc (.cells #[.int .i64 (i : Int), .int .i64 c] 33)) = W at HO HA HE hn hb ⊢
  generalize hbn : w.heap.size = bn at hn hb HL ⊢
  clear hW
  have d0 := (blk_cell hn 0).trans rfl
  have d1 := (blk_cell hn 1).trans rfl
  have c0 := (blk_cell HO.out 0).trans rfl
  have c1 := (blk_cell HA.out 0).trans rfl
  have c2 := (blk_cell HE.out 0).trans rfl
  have z0 := blk_frozen HO.out 0
  have z1 := blk_frozen HA.out 0
  have z2 := blk_frozen HE.out 0
  have e0 : ba ≠ bo := by have := HL.out; omega
  have e1 : be ≠ bo := by have := HL.out; omega
  have e2 : be ≠ ba := by have := HL.out; omega
  have e3 : bo ≠ ba := e0.symm
  have e4 : bo ≠ be := e1.symm
  have e5 : ba ≠ be := e2.symm
  have e6 : bn ≠ bo := by have := HL.out; omega
  have e7 : bn ≠ ba := by have := HL.out; omega
  have e8 : bn ≠ be := by have := HL.out; omega
  clear hn
  go_region
  go_wp2
  rw [← hG]
  have l := HL.out
  have g0 := blk_far (blk_far (blk_set HO.out 0 (.slice none 0 0)) (p := ⟨ba, 0, none⟩) (show bo ≠ ba from e3) (.int .i64 (i : Int))) (p := ⟨be, 0, none⟩) (show bo ≠ be from e4) (.int .i64 c)
  have g1 := blk_far (blk_set (blk_far HA.out (p := ⟨bo, 0, none⟩) (show ba ≠ bo from e0) (.slice none 0 0)) 0 (.int .i64 (i : Int))) (p := ⟨be, 0, none⟩) (show ba ≠ be from e5) (.int .i64 c)
  have g2 := blk_set (blk_far (blk_far HE.out (p := ⟨bo, 0, none⟩) (show be ≠ bo from e1) (.slice none 0 0)) (p := ⟨ba, 0, none⟩) (show be ≠ ba from e2) (.int .i64 (i : Int))) 0 (.int .i64 c)
  have hB : Below B w W := ⟨hb.out.os, hb.out.tape, hb.out.output, hb.out.size, fun k hk => hb.out.block k (by omega)⟩
  refine ⟨rfl, _, rfl, .tuple #[], by simp [results, Try.results7, go_sem], rfl, rfl, (blk_cell g0 0).trans rfl, (blk_cell g1 0).trans rfl, (blk_cell g2 0).trans rfl, ?_⟩
  exact (((hB.setCell (p := ⟨bo, 0, none⟩) (show B ≤ bo by omega) _).setCell (p := ⟨ba, 0, none⟩) (show B ≤ ba by omega) _).setCell (p := ⟨be, 0, none⟩) (show B ≤ be by omega) _).trans ⟨rfl, rfl, rfl, Nat.le_refl _, fun _ _ => rfl⟩
end Go.Proofs.Ytholgbdfflabhaa.Giv
end
section
namespace Go.Proofs.Ytholgbdfflabhaa.Giv
open Go.RowKit Go.Proofs.YtholgbdfflabhaaW.PrintWords Go.Proofs.YtholgbdfflabhaaW.PrintLast Go.Proofs.YtholgbdfflabhaaW.PrintMore Go.Proofs.Ytholgbdfflabhaa.PTk
open Go.Proofs.Ytholgbdfflabhaa.Opn Go.BigFrame
/-- The longest text that the machine's own search takes: some number. -/
def Ml (w : World) : Prop := ∃ m : Int, w.cell? ⟨0, 0, none⟩ = some (.int .i64 m)
theorem Ml.of {w w' : World} (h : Ml w) (hk : ∀ o, w.heap[0]? = some o → w'.heap[0]? = some o) : Ml w' := by
  obtain ⟨m, hm⟩ := h
  refine ⟨m, ?_⟩
  cases ho : w.heap[0]? with
  | none => simp [World.cell?, ho] at hm
  | some o =>
    have h2 := hk o ho
    unfold World.cell? at hm ⊢
    simp only [ho, h2] at hm ⊢
    exact hm
theorem Ml.lt {w : World} (h : Ml w) : 0 < w.heap.size := by
  obtain ⟨m, hm⟩ := h
  cases ho : w.heap[0]? with
  | none => simp [World.cell?, ho] at hm
  | some o => exact (Array.getElem?_eq_some_iff.1 ho).1
theorem Ml.below {w w' : World} (h : Ml w) (hb : Below w.heap.size w w') : Ml w' := h.of (fun o ho => blk_below ho hb)
theorem Ml.lk {g : Nat} {w w' : World} (h : Ml w) (hg : g ≠ 0) (hk : Lk g w w') : Ml w' := h.of (fun o ho => hk.at ho hg.symm)
theorem index_calls (s sub : ByteArray) (w : World) (hs : s.size < 4294967281) (hM : Ml w) : Calls Try.prog 13 #[.string s, .string sub] w fun e w' => e = .returned (.int .i64 (Lib.index s.data.toList sub.data.toList)) ∧ w' = w := by
  obtain ⟨m, hm⟩ := hM
  exact Try.strings_Index s sub m w hs hm
/-- Where blanks and comments end; or where a comment begins that does not end. -/
def skipE : Nat → ByteArray → Nat → Option (Nat × Bool)
  | 0, _, _ => none
  | k + 1, s, i => if i < s.size then ((token_blank.f (bt s (i : Nat))).bind fun b => if b = true then skipE k s (i + 1) else ((strings_HasPrefix.f (s.extract i s.size) (⟨#[47, 42]⟩ : ByteArray)).bind fun p => if p = true then
      (if i + 2 ≤ s.size then (if Lib.index (s.extract (i + 2) s.size).data.toList [42, 47] < 0 then some (i, false) else if i + (Lib.index (s.extract (i + 2) s.size).data.toList [42, 47]).toNat + 4 ≤ s.size then skipE k s (i + (Lib.index (s.extract (i + 2) s.size).data.toList [42, 47]).toNat + 4) else none) else none) else some (i, true))) else some (i, true)
theorem skipE.mono : ∀ k s i, LeO (skipE k s i) (skipE (k + 1) s i)
  | 0, s, i => LeO.none _
  | k + 1, s, i => by
    unfold skipE
    repeat' first
      | exact skipE.mono k _ _
      | (with_reducible exact LeO.refl _)
      | (with_reducible exact LeO.none _)
      | (with_reducible refine LeO.ite ?_ ?_)
      | (with_reducible refine LeO.bind ?_ (fun _ => ?_))
inductive SR (g : Nat) (s : ByteArray) (w : World) : Nat × Bool → Ending → World → Prop
  | ok {j : Nat} {w' : World} (hx : Lx w' g s j) (hk : Lk g w w') : SR g s w (j, true) (.returned (.tuple #[])) w'
  | no {j : Nat} {w' : World} (hk : Lk g w w') : SR g s w (j, false) (.panicked [{ v := faultV j 30, recovered := false }]) w'
set_option maxHeartbeats 8000000 in
set_option maxRecDepth 100000 in
theorem skipE_calls (k : Nat) (s : ByteArray) (g i : Nat) (r : Nat × Bool) (hs : s.size ≤ 1000000) (hi : i ≤ s.size) (w : World) (h : Lx w g s i) (hM : Ml w) (hgM : g ≠ 0) (hf : skipE k s i = some r) :
    Calls Try.prog 8 #[.pointer (some ⟨g, 0, none⟩)] w fun e w' => SR g s w r e w' := by
  have hu := Try.underlying37
  have hut := Try.underlying9
  have HS := Aside0.mk hs
  have HF := Aside0.mk hf
  have H1 := Aside0.mk h
  have HI := Aside0.mk hi
  have HM := Aside0.mk hM
  have HGM := Aside0.mk hgM
  clear hf h hs hi hM hgM
  go_enter Try.func8, Try.ntmps8
  go_wp2
  go_loopg [] k (fun kq wr => ∃ i : Nat, Aside0 (i ≤ s.size) ∧ Aside0 (skipE kq s i = some r) ∧ Aside0 (Lx wr g s i) ∧ Aside0 (Lk g w wr))
  case atStart => exact ⟨i, HI, HF, H1, ⟨Lk.refl g w⟩⟩
  case round =>
    clear HF H1 HI
    obtain ⟨i, HI, HF, HX, HK⟩ := hrel
    cases gk with
    | zero => exact absurd HF.out (by simp [skipE])
    | succ k2 =>
      have hf := HF.out
      have hi := HI.out
      have hs := HS.out
      have hc0 := HX.out.s
      have hc1 := HX.out.i
      have hz1 := blk_frozen HX.out 1
      clear HF
      unfold skipE at hf
      by_cases hlt : i < s.size
      · rw [if_pos hlt] at hf
        obtain ⟨b, hb, hf⟩ := Option.bind_eq_some_iff.mp hf
        have A1 := Aside0.mk hb
        have HLT := Aside0.mk hlt
        have hw1 : IntKind.i64.wrap ((i : Int) + 1) = ((i + 1 : Nat) : Int) := wrapE i 1 (by omega)
        have hw2 : wrap64 ((i : Int) + 1) = ((i + 1 : Nat) : Int) := by rw [← i64_w]; exact hw1
        have q0 : (0 ≤ (i : Int)) = True := eq_true (by omega)
        have q1 : ((i : Int) < (s.size : Int)) = True := eq_true (by omega)
        have q2 : decide ((i : Int) < (s.size : Int)) = true := decide_eq_true (by omega)
        have q3 : decide (i < s.size) = true := decide_eq_true hlt
        have q4 : (i < s.size) = True := eq_true hlt
        have hx : ∀ h : i < s.size, ((s[i].toNat : Nat) : Int) = bt s (i : Nat) := fun h => bt_at s (i : Int) (by simpa using h)
        clear hb
        cases b
        · rw [if_neg (by decide)] at hf
          obtain ⟨p, hp, hf⟩ := Option.bind_eq_some_iff.mp hf
          have A2 := Aside0.mk hp
          clear hp
          cases p
          · rw [if_neg (by decide)] at hf
            obtain rfl := Option.some.inj hf
            have hcut : ∀ W, (Instr.slice 9 (.string s) (some (.int .i64 (i : Int))) none none).run Try.prog W = .ok (.string (s.extract i s.size)) W := fun W => by
              have q5 : ((i : Int) ≤ (s.size : Int)) = True := eq_true (by omega)
              simp [go_sem, hut, q0, q5]
            clear hf hi hs hlt
            go_wp2
            refine wp_region_quiet_lit (by kernel_rfl) (by kernel_rfl) ?_
            repeat (go_big_quiet_step (fail))
            refine wpQuiet_nil ?_
            intro _ hw'
            obtain ⟨nq, hw''⟩ := hw'
            subst hw''
            go_wp2
            refine wp_region_quiet_lit (by kernel_rfl) (by kernel_rfl) ?_
            repeat (go_big_quiet_step (fail))
            refine qcall (some 23) rfl Try.func11 (by kernel_rfl) rfl #[.int .u8 (bt s (i : Nat))] (.bool false) (by rfl) rfl goa_ (fun w1 hw1 => ?_) ?_
            · obtain ⟨n1, rfl⟩ := hw1
              refine (token_blank.calls _ _ _ A1.out).mono ?_
              rintro e w2 ⟨rfl, ⟨m1, rfl⟩⟩
              exact ⟨rfl, ⟨n1 + m1, by simp [World.drewN, Nat.add_assoc]⟩⟩
            simp only [Act.put, List.setIfInBounds_toArray, List.set_cons_zero, List.set_cons_succ]
            repeat (go_big_quiet_step (fail))
            refine wpQuiet_nil ?_
            intro _ hw'
            obtain ⟨nq, hw''⟩ := hw'
            subst hw''
            go_wp2
            refine wp_region_quiet_lit (by kernel_rfl) (by kernel_rfl) ?_
            repeat (go_big_quiet_step (fail))
            refine qcall (some 41) rfl Try.func12 (by kernel_rfl) rfl #[.string (s.extract i s.size), .string (⟨#[47, 42]⟩ : ByteArray)] (.bool false) (by rfl) rfl goa_ (fun w1 hw1 => ?_) ?_
            · obtain ⟨n1, rfl⟩ := hw1
              refine (strings_HasPrefix.calls _ _ _ _ A2.out).mono ?_
              rintro e w2 ⟨rfl, ⟨m1, rfl⟩⟩
              exact ⟨rfl, ⟨n1 + m1, by simp [World.drewN, Nat.add_assoc]⟩⟩
            simp only [Act.put, List.setIfInBounds_toArray, List.set_cons_zero, List.set_cons_succ]
            repeat (go_big_quiet_step (fail))
            refine wpQuiet_nil ?_
            intro _ hw'
            obtain ⟨nq, hw''⟩ := hw'
            subst hw''
            go_wp2
            refine bodyPost_ret (results_none rfl _ _ _) rfl ?_
            exact SR.ok (by repeat (first | (with_reducible first | exact HX.out | apply Lx.drewN | apply Lx.drew | apply Lx.set))) (by repeat (first | (with_reducible first | exact HK.out | apply Lk.drewN | apply Lk.drew | apply Lk.set)))
          · rw [if_pos rfl] at hf
            by_cases h2 : i + 2 ≤ s.size
            · rw [if_pos h2] at hf
              obtain ⟨j2, e2⟩ : ∃ j2, j2 = i + 2 := ⟨_, rfl⟩
              rw [← e2] at hf h2
              obtain ⟨n, hn⟩ : ∃ n, n = Lib.index (s.extract j2 s.size).data.toList [42, 47] := ⟨_, rfl⟩
              rw [← hn] at hf
              have HN : Aside0 (Lib.index (s.extract j2 s.size).data.toList (⟨#[42, 47]⟩ : ByteArray).data.toList = n) := ⟨hn.symm⟩
              have HZ := Aside0.mk (show (s.extract j2 s.size).size ≤ 1000000 by rw [ByteArray.size_extract]; omega)
              have u1 : wrap64 ((i : Int) + 2) = (j2 : Int) := by unfold wrap64; omega
              have hcut : ∀ W, (Instr.slice 9 (.string s) (some (.int .i64 (i : Int))) none none).run Try.prog W = .ok (.string (s.extract i s.size)) W := fun W => by
                have q5 : ((i : Int) ≤ (s.size : Int)) = True := eq_true (by omega)
                simp [go_sem, hut, q0, q5]
              have hcut2 : ∀ W, (Instr.slice 9 (.string s) (some (.int .i64 (j2 : Int))) none none).run Try.prog W = .ok (.string (s.extract j2 s.size)) W := fun W => by
                have q5 : ((j2 : Int) ≤ (s.size : Int)) = True := eq_true (by omega)
                have q6 : (0 ≤ (j2 : Int)) = True := eq_true (by omega)
                simp [go_sem, hut, q6, q5]
              by_cases h3 : n < 0
              · rw [if_pos h3] at hf
                obtain rfl := Option.some.inj hf
                have p1 : decide (n < 0) = true := decide_eq_true h3
                clear hf hi hs hlt h2 h3 e2 hn
                go_wp2
                refine wp_region_quiet_lit (by kernel_rfl) (by kernel_rfl) ?_
                repeat (go_big_quiet_step (fail))
                refine wpQuiet_nil ?_
                intro _ hw'
                obtain ⟨nq, hw''⟩ := hw'
                subst hw''
                go_wp2
                refine wp_region_quiet_lit (by kernel_rfl) (by kernel_rfl) ?_
                repeat (go_big_quiet_step (fail))
                refine qcall (some 23) rfl Try.func11 (by kernel_rfl) rfl #[.int .u8 (bt s (i : Nat))] (.bool false) (by rfl) rfl goa_ (fun w1 hw1 => ?_) ?_
                · obtain ⟨n1, rfl⟩ := hw1
                  refine (token_blank.calls _ _ _ A1.out).mono ?_
                  rintro e w2 ⟨rfl, ⟨m1, rfl⟩⟩
                  exact ⟨rfl, ⟨n1 + m1, by simp [World.drewN, Nat.add_assoc]⟩⟩
                simp only [Act.put, List.setIfInBounds_toArray, List.set_cons_zero, List.set_cons_succ]
                repeat (go_big_quiet_step (fail))
                refine wpQuiet_nil ?_
                intro _ hw'
                obtain ⟨nq, hw''⟩ := hw'
                subst hw''
                go_wp2
                refine wp_region_quiet_lit (by kernel_rfl) (by kernel_rfl) ?_
                repeat (go_big_quiet_step (fail))
                refine qcall (some 41) rfl Try.func12 (by kernel_rfl) rfl #[.string (s.extract i s.size), .string (⟨#[47, 42]⟩ : ByteArray)] (.bool true) (by rfl) rfl goa_ (fun w1 hw1 => ?_) ?_
                · obtain ⟨n1, rfl⟩ := hw1
                  refine (strings_HasPrefix.calls _ _ _ _ A2.out).mono ?_
                  rintro e w2 ⟨rfl, ⟨m1, rfl⟩⟩
                  exact ⟨rfl, ⟨n1 + m1, by simp [World.drewN, Nat.add_assoc]⟩⟩
                simp only [Act.put, List.setIfInBounds_toArray, List.set_cons_zero, List.set_cons_succ]
                repeat (go_big_quiet_step (fail))
                refine wpQuiet_nil ?_
                intro _ hw'
                obtain ⟨nq, hw''⟩ := hw'
                subst hw''
                go_wp2
                refine wp_region_quiet_lit (by kernel_rfl) (by kernel_rfl) ?_
                repeat (go_big_quiet_step (fail))
                refine qcall (some 52) rfl Try.func13 (by kernel_rfl) rfl #[.string (s.extract j2 s.size), .string (⟨#[42, 47]⟩ : ByteArray)] (.int .i64 n) (by rfl) rfl goa_ (fun w1 hw1 => ?_) ?_
                · obtain ⟨n1, rfl⟩ := hw1
                  refine (index_calls (s.extract j2 s.size) ⟨#[42, 47]⟩ _ (by have := HZ.out; omega) ?hm).mono ?_
                  case hm => exact Ml.lk HM.out HGM.out (by repeat (first | (with_reducible first | exact HK.out | apply Lk.drewN | apply Lk.drew)))
                  rintro e w2 ⟨rfl, rfl⟩
                  exact ⟨by rw [HN.out], ⟨n1, rfl⟩⟩
                simp only [Act.put, List.setIfInBounds_toArray, List.set_cons_zero, List.set_cons_succ]
                repeat (go_big_quiet_step (fail))
                refine wpQuiet_nil ?_
                intro _ hw'
                obtain ⟨nq, hw''⟩ := hw'
                subst hw''
                go_wp2_with (first | (go_at_call 10; with_reducible refine (fail_calls g _ 30 _).mono ?_; rintro e wf ⟨rfl, rfl⟩))
                exact ⟨rfl, SR.no (by repeat (first | (with_reducible first | exact HK.out | apply Lk.drewN | apply Lk.drew | apply Lk.set)))⟩
              · rw [if_neg h3] at hf
                by_cases h4 : i + n.toNat + 4 ≤ s.size
                · rw [if_pos h4] at hf
                  have A4 := Aside0.mk hf
                  have HI4 := Aside0.mk h4
                  have p1 : decide (n < 0) = false := decide_eq_false h3
                  have HWN := Aside0.mk (show wrap64 ((i : Int) + wrap64 (n + 4)) = ((i + n.toNat + 4 : Nat) : Int) by unfold wrap64; omega)
                  clear hf hi hs hlt h2 h3 h4 e2 hn
                  go_wp2
                  refine wp_region_quiet_lit (by kernel_rfl) (by kernel_rfl) ?_
                  repeat (go_big_quiet_step (fail))
                  refine wpQuiet_nil ?_
                  intro _ hw'
                  obtain ⟨nq, hw''⟩ := hw'
                  subst hw''
                  go_wp2
                  refine wp_region_quiet_lit (by kernel_rfl) (by kernel_rfl) ?_
                  repeat (go_big_quiet_step (fail))
                  refine qcall (some 23) rfl Try.func11 (by kernel_rfl) rfl #[.int .u8 (bt s (i : Nat))] (.bool false) (by rfl) rfl goa_ (fun w1 hw1 => ?_) ?_
                  · obtain ⟨n1, rfl⟩ := hw1
                    refine (token_blank.calls _ _ _ A1.out).mono ?_
                    rintro e w2 ⟨rfl, ⟨m1, rfl⟩⟩
                    exact ⟨rfl, ⟨n1 + m1, by simp [World.drewN, Nat.add_assoc]⟩⟩
                  simp only [Act.put, List.setIfInBounds_toArray, List.set_cons_zero, List.set_cons_succ]
                  repeat (go_big_quiet_step (fail))
                  refine wpQuiet_nil ?_
                  intro _ hw'
                  obtain ⟨nq, hw''⟩ := hw'
                  subst hw''
                  go_wp2
                  refine wp_region_quiet_lit (by kernel_rfl) (by kernel_rfl) ?_
                  repeat (go_big_quiet_step (fail))
                  refine qcall (some 41) rfl Try.func12 (by kernel_rfl) rfl #[.string (s.extract i s.size), .string (⟨#[47, 42]⟩ : ByteArray)] (.bool true) (by rfl) rfl goa_ (fun w1 hw1 => ?_) ?_
                  · obtain ⟨n1, rfl⟩ := hw1
                    refine (strings_HasPrefix.calls _ _ _ _ A2.out).mono ?_
                    rintro e w2 ⟨rfl, ⟨m1, rfl⟩⟩
                    exact ⟨rfl, ⟨n1 + m1, by simp [World.drewN, Nat.add_assoc]⟩⟩
                  simp only [Act.put, List.setIfInBounds_toArray, List.set_cons_zero, List.set_cons_succ]
                  repeat (go_big_quiet_step (fail))
                  refine wpQuiet_nil ?_
                  intro _ hw'
                  obtain ⟨nq, hw''⟩ := hw'
                  subst hw''
                  go_wp2
                  refine wp_region_quiet_lit (by kernel_rfl) (by kernel_rfl) ?_
                  repeat (go_big_quiet_step (fail))
                  refine qcall (some 52) rfl Try.func13 (by kernel_rfl) rfl #[.string (s.extract j2 s.size), .string (⟨#[42, 47]⟩ : ByteArray)] (.int .i64 n) (by rfl) rfl goa_ (fun w1 hw1 => ?_) ?_
                  · obtain ⟨n1, rfl⟩ := hw1
                    refine (index_calls (s.extract j2 s.size) ⟨#[42, 47]⟩ _ (by have := HZ.out; omega) ?hm).mono ?_
                    case hm => exact Ml.lk HM.out HGM.out (by repeat (first | (with_reducible first | exact HK.out | apply Lk.drewN | apply Lk.drew)))
                    rintro e w2 ⟨rfl, rfl⟩
                    exact ⟨by rw [HN.out], ⟨n1, rfl⟩⟩
                  simp only [Act.put, List.setIfInBounds_toArray, List.set_cons_zero, List.set_cons_succ]
                  repeat (go_big_quiet_step (fail))
                  refine wpQuiet_nil ?_
                  intro _ hw'
                  obtain ⟨nq, hw''⟩ := hw'
                  subst hw''
                  go_wp2
                  go_roundg k2
                  case measure => omega
                  case rel => exact ⟨i + n.toNat + 4, HI4, A4, ⟨Lx.setv (by repeat (first | (with_reducible first | exact HX.out | apply Lx.drewN | apply Lx.drew | apply Lx.set))) HWN.out⟩, ⟨(by repeat (first | (with_reducible first | exact HK.out | apply Lk.drewN | apply Lk.drew | apply Lk.set)))⟩⟩
                · rw [if_neg h4] at hf
                  cases hf
            · rw [if_neg h2] at hf
              cases hf
        · rw [if_pos rfl] at hf
          have A2 := Aside0.mk hf
          clear hf hi hs hlt
          go_wp2
          refine wp_region_quiet_lit (by kernel_rfl) (by kernel_rfl) ?_
          repeat (go_big_quiet_step (fail))
          refine wpQuiet_nil ?_
          intro _ hw'
          obtain ⟨nq, hw''⟩ := hw'
          subst hw''
          go_wp2
          refine wp_region_quiet_lit (by kernel_rfl) (by kernel_rfl) ?_
          repeat (go_big_quiet_step (fail))
          refine qcall (some 23) rfl Try.func11 (by kernel_rfl) rfl #[.int .u8 (bt s (i : Nat))] (.bool true) (by rfl) rfl goa_ (fun w1 hw1 => ?_) ?_
          · obtain ⟨n1, rfl⟩ := hw1
            refine (token_blank.calls _ _ _ A1.out).mono ?_
            rintro e w2 ⟨rfl, ⟨m1, rfl⟩⟩
            exact ⟨rfl, ⟨n1 + m1, by simp [World.drewN, Nat.add_assoc]⟩⟩
          simp only [Act.put, List.setIfInBounds_toArray, List.set_cons_zero, List.set_cons_succ]
          repeat (go_big_quiet_step (fail))
          refine wpQuiet_nil ?_
          intro _ hw'
          obtain ⟨nq, hw''⟩ := hw'
          subst hw''
          go_wp2
          go_roundg k2
          case measure => omega
          case rel => exact ⟨i + 1, ⟨HLT.out⟩, A2, ⟨Lx.setv (by repeat (first | (with_reducible first | exact HX.out | apply Lx.drewN | apply Lx.drew | apply Lx.set))) (by omega)⟩, ⟨(by repeat (first | (with_reducible first | exact HK.out | apply Lk.drewN | apply Lk.drew | apply Lk.set)))⟩⟩
      · rw [if_neg hlt] at hf
        obtain rfl := Option.some.inj hf
        have q1 : ((i : Int) < (s.size : Int)) = False := eq_false (by omega)
        have q2 : decide ((i : Int) < (s.size : Int)) = false := decide_eq_false (by omega)
        have q3 : decide (i < s.size) = false := decide_eq_false hlt
        have q4 : (i < s.size) = False := eq_false hlt
        clear hf hi hs hlt
        go_wp2
        refine wp_region_quiet_lit (by kernel_rfl) (by kernel_rfl) ?_
        repeat (go_big_quiet_step (fail))
        refine wpQuiet_nil ?_
        intro _ hw'
        obtain ⟨nq, hw''⟩ := hw'
        subst hw''
        go_wp2
        go_end0
        exact SR.ok (by repeat (first | (with_reducible first | exact HX.out | apply Lx.drewN | apply Lx.drew | apply Lx.set))) (by repeat (first | (with_reducible first | exact HK.out | apply Lk.drewN | apply Lk.drew | apply Lk.set)))
end Go.Proofs.Ytholgbdfflabhaa.Giv
end
section
namespace Go.Proofs.Ytholgbdfflabhaa.Giv
open Go.RowKit Go.Proofs.YtholgbdfflabhaaW.PrintWords Go.Proofs.YtholgbdfflabhaaW.PrintLast Go.Proofs.YtholgbdfflabhaaW.PrintMore Go.Proofs.Ytholgbdfflabhaa.PTk
open Go.Proofs.Ytholgbdfflabhaa.Opn Go.BigFrame
/-- The words of bytes, from a place on; or the error. -/
def token_Tokens.l0 : Nat → ByteArray → Nat → List S29 → Option (List S29 × Int × Int)
  | 0, _, _, _ => none
  | k + 1, s, i, out => if i < s.size then (if out.length < 65536 then ((wordE k s i).bind fun t => if t.1 = 0 then (if t.2.2.2.2 ≤ s.size then ((skipE k s t.2.2.2.2).bind fun j => if j.1 ≤ s.size then (if j.2 = true then token_Tokens.l0 k s j.1 (out ++ [⟨t.2.1, (i : Int), t.2.2.1, t.2.2.2.1⟩]) else some ([], (j.1 : Int), 30)) else none) else none) else some ([], (i : Int), t.1)) else none) else some (out ++ [⟨8, (s.size : Int), ⟨#[]⟩, ⟨#[]⟩⟩], 0, 0)
def token_Tokens.f (k : Nat) (l0 : List Int) : Option (List S29 × Int × Int) := if l0.length ≤ 262144 then ((skipE k (strOfNums l0) 0).bind fun i => if i.1 ≤ (strOfNums l0).size then (if i.2 = true then token_Tokens.l0 k (strOfNums l0) i.1 [] else some ([], (i.1 : Int), 30)) else none) else none
theorem token_Tokens.mono_l : ∀ k, (∀ s i out, LeO (token_Tokens.l0 k s i out) (token_Tokens.l0 (k + 1) s i out))
  | 0 => fun _ _ _ r h => by simp [token_Tokens.l0] at h
  | k + 1 => by
    have ih0 := token_Tokens.mono_l k
    intro s i out
    unfold token_Tokens.l0
    refine LeO.ite (LeO.ite (LeO.bind (wordE.mono _ _ _) (fun t => LeO.ite (LeO.ite (LeO.bind (skipE.mono _ _ _) (fun j => LeO.ite (LeO.ite (ih0 _ _ _) (LeO.refl _)) (LeO.none _))) (LeO.none _)) (LeO.refl _))) (LeO.none _)) (LeO.refl _)
theorem token_Tokens.mono : ∀ l0 k, LeO (token_Tokens.f k l0) (token_Tokens.f (k + 1) l0) := by
  intro l0 k
  unfold token_Tokens.f
  refine LeO.ite (LeO.bind (skipE.mono _ _ _) (fun i => LeO.ite (LeO.ite (token_Tokens.mono_l _ _ _ _) (LeO.refl _)) (LeO.none _))) (LeO.none _)
theorem SR.out {g : Nat} {s : ByteArray} {w : World} {j : Nat} {e : Ending} {w' : World} (h : SR g s w (j, true) e w') : e = .returned (.tuple #[]) ∧ Lx w' g s j ∧ Lk g w w' := by
  cases h with
  | ok hx hk => exact ⟨rfl, hx, hk⟩
theorem SR.dead {g : Nat} {s : ByteArray} {w : World} {j : Nat} {e : Ending} {w' : World} (h : SR g s w (j, false) e w') : e = .panicked [{ v := faultV j 30, recovered := false }] ∧ Lk g w w' := by
  cases h with
  | no hk => exact ⟨rfl, hk⟩
/-- The blocks of Tokens: its three results' variables, and the lexer. -/
structure Toks (w w1 : World) (bo ba be g : Nat) (s : ByteArray) (i : Nat) (out : List S29) (v : Value) : Prop where
  o : w1.heap[bo]? = some (.cells #[v] 24 (0, 0))
  a : w1.heap[ba]? = some (.cells #[.int .i64 0] 3 (0, 0))
  e : w1.heap[be]? = some (.cells #[.int .i64 0] 25 (0, 0))
  x : Lx w1 g s i
  r : Kd.R k29 29 w1 w.heap.size (fun k => k ≠ bo ∧ k ≠ ba ∧ k ≠ be ∧ k ≠ g) v out
  b : Below w.heap.size w w1
structure Apart4 (w : World) (bo ba be g : Nat) : Prop where
  l0 : w.heap.size ≤ bo
  l1 : bo < ba
  l2 : ba < be
  l3 : be < g
section
variable {w w1 w2 : World} {bo ba be g i : Nat} {s : ByteArray} {out : List S29} {v : Value}
theorem Toks.below (h : Toks w w1 bo ba be g s i out v) (hb : Below w1.heap.size w1 w2) : Toks w w2 bo ba be g s i out v :=
  ⟨blk_below h.o hb, blk_below h.a hb, blk_below h.e hb, h.x.below hb, Kd.R_below h.r hb, below_step h.b hb⟩
theorem Toks.lk (h : Toks w w1 bo ba be g s i out v) (hp : Apart4 w bo ba be g) {j : Nat} (hk : Lk g w1 w2) (hx : Lx w2 g s j) : Toks w w2 bo ba be g s j out v :=
  ⟨hk.at h.o (by have := hp.l1; have := hp.l2; have := hp.l3; omega), hk.at h.a (by have := hp.l2; have := hp.l3; omega), hk.at h.e (by have := hp.l3; omega), hx,
    Kd.R_step h.r (fun k hok hlt => hk.heap k hlt hok.2.2.2), Lk.below h.b hk (by have := hp.l0; have := hp.l1; have := hp.l2; have := hp.l3; omega) (below_size h.b)⟩
theorem Toks.ml (h : Toks w w1 bo ba be g s i out v) (hM : Ml w) : Ml w1 := hM.below h.b
theorem Toks.dead (h : Toks w w1 bo ba be g s i out v) (hp : Apart4 w bo ba be g) (hk : Lk g w1 w2) : w2.heap[bo]? = some (.cells #[v] 24 (0, 0)) ∧ w2.heap[ba]? = some (.cells #[.int .i64 0] 3 (0, 0)) ∧ w2.heap[be]? = some (.cells #[.int .i64 0] 25 (0, 0)) ∧ Below w.heap.size w w2 :=
  ⟨hk.at h.o (by have := hp.l1; have := hp.l2; have := hp.l3; omega), hk.at h.a (by have := hp.l2; have := hp.l3; omega), hk.at h.e (by have := hp.l3; omega), Lk.below h.b hk (by have := hp.l0; have := hp.l1; have := hp.l2; have := hp.l3; omega) (below_size h.b)⟩
theorem Apart4.ml (hp : Apart4 w bo ba be g) (hM : Ml w) : g ≠ 0 := by
  have := hp.l0
  have := hp.l1
  have := hp.l2
  have := hp.l3
  have := hM.lt
  omega
theorem Toks.drewN (h : Toks w w1 bo ba be g s i out v) (n : Nat) : Toks w (w1.drewN n) bo ba be g s i out v := h.below ⟨rfl, rfl, rfl, Nat.le_refl _, fun _ _ => rfl⟩
theorem Toks.drew (h : Toks w w1 bo ba be g s i out v) : Toks w w1.drew bo ba be g s i out v := h.below ⟨rfl, rfl, rfl, Nat.le_refl _, fun _ _ => rfl⟩
/-- A cell of a block that is neither of these, nor the row's. -/
theorem Toks.far (h : Toks w w1 bo ba be g s i out v) {b : Nat} (h0 : w.heap.size ≤ b) (h1 : bo ≠ b) (h2 : ba ≠ b) (h3 : be ≠ b) (h4 : g ≠ b) (h5 : v.ownBlock ≠ some b) (o : Nat) (u : Value) : Toks w (w1.setCell ⟨b, o, none⟩ u) bo ba be g s i out v :=
  ⟨blk_far h.o h1 _, blk_far h.a h2 _, blk_far h.e h3 _, h.x.far h4 _ _, Kd.R_mono (Kd.R_far (Kd.R_reok rfl h.r (ok := fun k => (k ≠ bo ∧ k ≠ ba ∧ k ≠ be ∧ k ≠ g) ∧ k ≠ b) (fun k hk => ⟨h.r.1 k hk, fun e => h5 (by rw [hk, e])⟩)) (fun k hk => hk.2) _) (fun _ hk => hk.1), below_set h.b h0⟩
theorem Toks.set (h : Toks w w1 bo ba be g s i out v) (hp : Apart4 w bo ba be g) {out' : List S29} {v' : Value} (hg : w1.grownBy w2 v.ownBlock) (hr : Kd.R k29 29 w2 w.heap.size (fun k => k ≠ bo ∧ k ≠ ba ∧ k ≠ be ∧ k ≠ g) v' out') (hb : Below w.heap.size w w2) :
    Toks w (w2.setCell ⟨bo, 0, none⟩ v') bo ba be g s i out' v' := by
  have n0 : some bo ≠ v.ownBlock := fun e => (h.r.1 bo e.symm).1 rfl
  have n1 : some ba ≠ v.ownBlock := fun e => (h.r.1 ba e.symm).2.1 rfl
  have n2 : some be ≠ v.ownBlock := fun e => (h.r.1 be e.symm).2.2.1 rfl
  have n3 : some g ≠ v.ownBlock := fun e => (h.r.1 g e.symm).2.2.2 rfl
  have hp1 := hp.l1
  have hp2 := hp.l2
  have hp3 := hp.l3
  refine ⟨blk_set (blk_grown h.o hg n0) 0 _, blk_far (blk_grown h.a hg n1) (by exact (by omega : ba ≠ bo)) _, blk_far (blk_grown h.e hg n2) (by exact (by omega : be ≠ bo)) _, ?_, Kd.R_far hr (fun k hk => hk.1) _, below_set hb hp.l0⟩
  have hx : Lx w2 g s i := blk_grown h.x hg n3
  exact hx.far (by omega : g ≠ bo) _ _
theorem Toks.fin (h : Toks w w1 bo ba be g s i out v) (hp : Apart4 w bo ba be g) :
    let W := ((w1.setCell ⟨ba, 0, none⟩ (.int .i64 0)).setCell ⟨be, 0, none⟩ (.int .i64 0))
    W.cell? ⟨bo, 0, none⟩ = some v ∧ W.cell? ⟨ba, 0, none⟩ = some (.int .i64 0) ∧ W.cell? ⟨be, 0, none⟩ = some (.int .i64 0) ∧ Kd.R k29 29 W w.heap.size (fun _ => True) v out ∧ Below w.heap.size w W := by
  have hp0 := hp.l0
  have hp1 := hp.l1
  have hp2 := hp.l2
  have h0 := blk_far (blk_far h.o (show bo ≠ ba by omega) (p := ⟨ba, 0, none⟩) (.int .i64 0)) (show bo ≠ be by omega) (p := ⟨be, 0, none⟩) (.int .i64 0)
  have h1 := blk_far (blk_set h.a 0 (.int .i64 0)) (show ba ≠ be by omega) (p := ⟨be, 0, none⟩) (.int .i64 0)
  have h2 := blk_set (blk_far h.e (show be ≠ ba by omega) (p := ⟨ba, 0, none⟩) (.int .i64 0)) 0 (.int .i64 0)
  exact ⟨(blk_cell h0 0).trans rfl, (blk_cell h1 0).trans rfl, (blk_cell h2 0).trans rfl, Kd.R_mono (Kd.R_far (Kd.R_far h.r (fun k hk => hk.2.1) _) (fun k hk => hk.2.2.1) _) (fun _ _ => trivial), below_set (below_set h.b (by omega)) (by omega)⟩
end
/-- What comes of a region that ends as it should. -/
def QN (Q : Exit → Act → World → Prop) : Exit → Act → World → Prop
  | .normal, a, w => Q .normal a w
  | _, _, _ => False
theorem QN.to {Q : Exit → Act → World → Prop} : ∀ e a w, QN Q e a w → Q e a w := by
  intro e a w h
  cases e <;> first | exact h | exact h.elim
theorem infoT : (Try.prog.info? 29).map (fun i => (i.zero, i.size, i.bytes)) = some (some (.agg #[.int .i64 0, .int .i64 0, .string ⟨#[]⟩, .string ⟨#[]⟩]), 4, 48) := by kernel_rfl
theorem tokens_idle (bo ba be : Nat) (w : World) :
    CallsD Try.prog 7 #[.pointer (some ⟨bo, 0, none⟩), .pointer (some ⟨ba, 0, none⟩), .pointer (some ⟨be, 0, none⟩)] .returning w fun e u' w' => e = .returned (.tuple #[]) ∧ u' = .returning ∧ w' = w := by
  refine callsD_of_wpS Try.func7 rfl fun c₀ cs hu => ?_
  apply wpS_seq
  apply wpS_region
  simp [wpOpsS, go_sem, recoverD, hu, Try.ntmps7, Exit.thenS]
  apply wpS_seq
  apply wpS_region
  simp [wpOpsS, go_sem, recoverD, Try.ntmps7, Exit.thenS]
  refine wpS_cond (t := false) (by simp [Act.eval, Array.replicate]) ?_
  simp only [Bool.false_eq_true, if_false]
  refine wpS_of_wp (wp_skip ?_)
  cases c₀
  simp_all [bodyPostS, results, Try.results7]
def token_Tokens.T13 : Bool × List (List Nat × List Nat) := (true, [([], []), ([], []), ([1], [1]), ([2], [2]), ([3], [3]), ([4], [4]), ([5], [5]), ([6], [6]), ([0, 7], [0, 7]), ([8, 8, 0, 1, 2, 3, 4, 5, 6, 7, 8], [8]), ([9, 0, 1, 2, 3, 4, 5, 6, 7, 8, 9], []), ([10, 0, 1, 2, 3, 4, 5, 6, 7, 8, 9, 10], [])])
def token_Tokens.B13 : List Nat := [0, 0, 2, 6, 14, 30, 62, 126, 255, 511, 1023, 2047]
theorem token_Tokens.tab13 : rtab .any (opsOf Try.f6 13) = token_Tokens.T13 := by kernel_rfl
theorem token_Tokens.bits13 : waitsOk token_Tokens.T13.2 token_Tokens.B13 = true := by kernel_rfl
set_option maxHeartbeats 16000000 in
set_option maxRecDepth 100000 in
theorem token_Tokens.calls (k : Nat) (A0 : Option Addr) (c0 : Nat) (l0 : List Int) (r0 : List S29) (r1 r2 : Int) (w : World) (hr0 : Kd.C (Kd.int .u8) w A0 l0.length l0) (hc0 : l0.length ≤ c0) (h : token_Tokens.f k l0 = some (r0, r1, r2)) (hM : Ml w) :
    Calls Try.prog 6 #[.slice A0 l0.length c0] w fun e w' => ∃ v0_ : Value, e = .returned (.tuple #[v0_, .int .i64 r1, .int .i64 r2]) ∧ Kd.R k29 29 w' w.heap.size (fun _ => True) v0_ r0 ∧ Below w.heap.size w w' := by
  have hmf : ∀ (fn : Fn) (first cap : Array Value) (w : World), (Instr.makeFunc fn first cap).run Try.prog w = .ok (.func fn first cap) w := fun _ _ _ _ => rfl
  have hu := Try.underlying37
  have hut := Try.underlying9
  have huT := Try.underlying29
  have HR := Aside0.mk hr0
  have HM := Aside0.mk hM
  clear hr0 hM
  unfold token_Tokens.f at h
  by_cases hl : l0.length ≤ 262144
  · rw [if_pos hl] at h
    obtain ⟨⟨i0, ok⟩, hsk, h⟩ := Option.bind_eq_some_iff.mp h
    try dsimp only at h
    have hsz : (strOfNums l0).size = l0.length := by
      show ((l0.map fun n => UInt8.ofNat n.toNat).toArray).size = l0.length
      rw [List.size_toArray, List.length_map]
    obtain ⟨s, hs⟩ : ∃ s, strOfNums l0 = s := ⟨_, rfl⟩
    rw [hs] at h hsk hsz
    have ES := Aside0.mk hs
    by_cases hi0 : i0 ≤ s.size
    · rw [if_pos hi0] at h
      have HS6 := Aside0.mk (show s.size ≤ 1000000 by omega)
      cases ok
      · rw [if_neg (by decide)] at h
        obtain ⟨rfl, rfl, rfl⟩ : ([] : List S29) = r0 ∧ (i0 : Int) = r1 ∧ (30 : Int) = r2 := by simpa only [Prod.mk.injEq] using Option.some.inj h
        clear h
        have HS := Aside0.mk (show s.size ≤ 140737488351232 by omega)
        have HSZ := Aside0.mk (show s.size ≤ 262144 by omega)
        have HSK := Aside0.mk hsk
        have HI0 := Aside0.mk hi0
        have H00 := Aside0.mk (Nat.zero_le s.size)
        have p1 : decide ((l0.length : Int) > 262144) = false := decide_eq_false (by omega)
        have p2 : decide (262144 < (l0.length : Int)) = false := decide_eq_false (by omega)
        clear hsk hi0 hs hsz hl
        go_enter_defers Try.func6, Try.ntmps6
        go_wp2_with (first | ((with_reducible refine gate_dst (N := 2) rfl ?_); (try (refine gate_guard (by rfl) ?_; dsimp only)); refine box_event ?hg (N := 2) ?hd (cs := #[.slice none 0 0]) (t := 24) ?hr ?_; (case hd => rfl); (case hg => rfl); (case hr => first | (go_simp; done) | (go_simp; rfl)); intro bo hg w1 hbox hb; have G0 := Aside0.mk hg; have B0 := Aside0.mk hbox; have BL := Aside0.mk hb; clear hg hbox hb) | ((with_reducible refine gate_dst (N := 3) rfl ?_); (try (refine gate_guard (by rfl) ?_; dsimp only)); refine box_event ?hg (N := 3) ?hd (cs := #[.int .i64 0]) (t := 3) ?hr ?_; (case hd => rfl); (case hg => rfl); (case hr => first | (go_simp; done) | (go_simp; rfl)); intro ba hg w2 hbox hb; have G1 := Aside0.mk hg; have B1 := Aside0.mk hbox; have L0 := Aside0.mk (blk_lt B0.out); have n0 := Aside0.mk (blk_below B0.out hb); have n1 := Aside0.mk (below_step BL.out hb); clear hg hbox hb B0 BL; have B0 := n0; have BL := n1; clear n0 n1) | ((with_reducible refine gate_dst (N := 4) rfl ?_); (try (refine gate_guard (by rfl) ?_; dsimp only)); refine box_event ?hg (N := 4) ?hd (cs := #[.int .i64 0]) (t := 25) ?hr ?_; (case hd => rfl); (case hg => rfl); (case hr => first | (go_simp; done) | (go_simp; rfl)); intro be hg w3 hbox hb; have G2 := Aside0.mk hg; have B2 := Aside0.mk hbox; have L1 := Aside0.mk (blk_lt B1.out); have n0 := Aside0.mk (blk_below B0.out hb); have n2 := Aside0.mk (blk_below B1.out hb); have n1 := Aside0.mk (below_step BL.out hb); clear hg hbox hb B0 BL B1; have B0 := n0; have BL := n1; have B1 := n2; clear n0 n1 n2; have hst := fun c => Kd.C_string (P := Try.prog) (c := c) Try.underlying22 Try.underlying5 Try.underlying9 (Kd.C_below HR.out BL.out); rw [ES.out] at hst) | ((with_reducible refine gate_dst (N := 15) rfl ?_); (try (refine gate_guard (by rfl) ?_; dsimp only)); refine box_event ?hg (N := 15) ?hd (cs := #[.string s, .int .i64 0]) (t := 37) ?hr ?_; (case hd => rfl); (case hg => rfl); (case hr => first | (go_simp; done) | (go_simp; rfl)); intro g hg w4 hbox hb; have G3 := Aside0.mk hg; have B3 := Aside0.mk hbox; have L2 := Aside0.mk (blk_lt B2.out); have HT : Aside0 (Toks w w4 bo ba be g s 0 [] (.slice none 0 0)) := ⟨⟨blk_below B0.out hb, blk_below B1.out hb, blk_below B2.out hb, B3.out, Kd.R_nil _ _ _ _ _, below_step BL.out hb⟩⟩; have HP : Aside0 (Apart4 w bo ba be g) := ⟨⟨by rw [G0.out]; exact Nat.le_refl _, by rw [G1.out]; exact L0.out, by rw [G2.out]; exact L1.out, by rw [G3.out]; exact L2.out⟩⟩; clear hg hbox hb B0 B1 B2 B3 BL hst; have hc0 := HT.out.x.s; have hc1 := HT.out.x.i; have hd0 := (blk_cell HT.out.o 0).trans rfl; have hz0 := blk_frozen HT.out.o 0) | (go_at_call 8; with_reducible refine (skipE_calls k s g 0 (i0, false) HS6.out H00.out _ ?lx ?hm ?hg HSK.out).mono ?_; (case lx => exact (by repeat (first | (with_reducible first | exact HT.out.x | apply Lx.drewN | apply Lx.drew)))); (case hm => exact Toks.ml (by repeat (first | (with_reducible first | exact HT.out | apply Toks.drewN | apply Toks.drew))) HM.out); (case hg => exact HP.out.ml HM.out); intro e wk hsr; obtain ⟨rfl, hk⟩ := hsr.dead; clear hsr; have HD := Aside0.mk (Toks.dead (by repeat (first | (with_reducible first | exact HT.out | apply Toks.drewN | apply Toks.drew))) HP.out hk); clear hk))
        obtain ⟨D0, D1, D2, DB⟩ := HD.out
        refine leaves_cons (f := 7) (args := #[.pointer (some ⟨bo, 0, none⟩), .pointer (some ⟨ba, 0, none⟩), .pointer (some ⟨be, 0, none⟩)]) (by simp) (by simp [go_sem]) ?_
        refine (tokens_caught w.heap.size bo ba be i0 30 _ _ D0 D1 D2 HP.out.l1 HP.out.l2 HP.out.l0).mono ?_
        rintro e u' w'' ⟨rfl, rfl, F0, F1, F2, FB⟩
        refine ⟨.tuple #[.slice none 0 0, .int .i64 (i0 : Int), .int .i64 30], ?_, ⟨_, rfl, Kd.R_nil _ _ _ _ _, DB.trans FB⟩⟩
        simp [results, Try.results6, go_sem, F0, F1, F2]
      rw [if_pos rfl] at h
      have hlp := h
      clear h
      have HS := Aside0.mk (show s.size ≤ 140737488351232 by omega)
      have HSZ := Aside0.mk (show s.size ≤ 262144 by omega)
      have HSK := Aside0.mk hsk
      have HLP := Aside0.mk hlp
      have HI0 := Aside0.mk hi0
      have H00 := Aside0.mk (Nat.zero_le s.size)
      have p1 : decide ((l0.length : Int) > 262144) = false := decide_eq_false (by omega)
      have p2 : decide (262144 < (l0.length : Int)) = false := decide_eq_false (by omega)
      clear hsk hlp hi0 hs hsz hl
      go_enter_defers Try.func6, Try.ntmps6
      go_wp2_with (first | ((with_reducible refine gate_dst (N := 2) rfl ?_); (try (refine gate_guard (by rfl) ?_; dsimp only)); refine box_event ?hg (N := 2) ?hd (cs := #[.slice none 0 0]) (t := 24) ?hr ?_; (case hd => rfl); (case hg => rfl); (case hr => first | (go_simp; done) | (go_simp; rfl)); intro bo hg w1 hbox hb; have G0 := Aside0.mk hg; have B0 := Aside0.mk hbox; have BL := Aside0.mk hb; clear hg hbox hb) | ((with_reducible refine gate_dst (N := 3) rfl ?_); (try (refine gate_guard (by rfl) ?_; dsimp only)); refine box_event ?hg (N := 3) ?hd (cs := #[.int .i64 0]) (t := 3) ?hr ?_; (case hd => rfl); (case hg => rfl); (case hr => first | (go_simp; done) | (go_simp; rfl)); intro ba hg w2 hbox hb; have G1 := Aside0.mk hg; have B1 := Aside0.mk hbox; have L0 := Aside0.mk (blk_lt B0.out); have n0 := Aside0.mk (blk_below B0.out hb); have n1 := Aside0.mk (below_step BL.out hb); clear hg hbox hb B0 BL; have B0 := n0; have BL := n1; clear n0 n1) | ((with_reducible refine gate_dst (N := 4) rfl ?_); (try (refine gate_guard (by rfl) ?_; dsimp only)); refine box_event ?hg (N := 4) ?hd (cs := #[.int .i64 0]) (t := 25) ?hr ?_; (case hd => rfl); (case hg => rfl); (case hr => first | (go_simp; done) | (go_simp; rfl)); intro be hg w3 hbox hb; have G2 := Aside0.mk hg; have B2 := Aside0.mk hbox; have L1 := Aside0.mk (blk_lt B1.out); have n0 := Aside0.mk (blk_below B0.out hb); have n2 := Aside0.mk (blk_below B1.out hb); have n1 := Aside0.mk (below_step BL.out hb); clear hg hbox hb B0 BL B1; have B0 := n0; have BL := n1; have B1 := n2; clear n0 n1 n2; have hst := fun c => Kd.C_string (P := Try.prog) (c := c) Try.underlying22 Try.underlying5 Try.underlying9 (Kd.C_below HR.out BL.out); rw [ES.out] at hst) | ((with_reducible refine gate_dst (N := 15) rfl ?_); (try (refine gate_guard (by rfl) ?_; dsimp only)); refine box_event ?hg (N := 15) ?hd (cs := #[.string s, .int .i64 0]) (t := 37) ?hr ?_; (case hd => rfl); (case hg => rfl); (case hr => first | (go_simp; done) | (go_simp; rfl)); intro g hg w4 hbox hb; have G3 := Aside0.mk hg; have B3 := Aside0.mk hbox; have L2 := Aside0.mk (blk_lt B2.out); have HT : Aside0 (Toks w w4 bo ba be g s 0 [] (.slice none 0 0)) := ⟨⟨blk_below B0.out hb, blk_below B1.out hb, blk_below B2.out hb, B3.out, Kd.R_nil _ _ _ _ _, below_step BL.out hb⟩⟩; have HP : Aside0 (Apart4 w bo ba be g) := ⟨⟨by rw [G0.out]; exact Nat.le_refl _, by rw [G1.out]; exact L0.out, by rw [G2.out]; exact L1.out, by rw [G3.out]; exact L2.out⟩⟩; clear hg hbox hb B0 B1 B2 B3 BL hst; have hc0 := HT.out.x.s; have hc1 := HT.out.x.i; have hd0 := (blk_cell HT.out.o 0).trans rfl; have hz0 := blk_frozen HT.out.o 0) | (go_at_call 8; with_reducible refine (skipE_calls k s g 0 (i0, true) HS6.out H00.out _ ?lx ?hm ?hg HSK.out).mono ?_; (case lx => exact (by repeat (first | (with_reducible first | exact HT.out.x | apply Lx.drewN | apply Lx.drew)))); (case hm => exact Toks.ml (by repeat (first | (with_reducible first | exact HT.out | apply Toks.drewN | apply Toks.drew))) HM.out); (case hg => exact HP.out.ml HM.out); intro e wk hsr; obtain ⟨rfl, hx, hk⟩ := hsr.out; clear hsr; have HT2 := Aside0.mk (Toks.lk (by repeat (first | (with_reducible first | exact HT.out | apply Toks.drewN | apply Toks.drew))) HP.out hk hx); clear hx hk HT; have HT := HT2; clear HT2; have hc0 := HT.out.x.s; have hc1 := HT.out.x.i; have hd0 := (blk_cell HT.out.o 0).trans rfl; have hz0 := blk_frozen HT.out.o 0))
      go_loopg [] k (fun kq wr => ∃ (i : Nat) (out : List S29) (v : Value), Aside0 (out.length ≤ 65536) ∧ Aside0 (i ≤ s.size) ∧ Aside0 (token_Tokens.l0 kq s i out = some (r0, r1, r2)) ∧ Aside0 (Toks w wr bo ba be g s i out v))
      case atStart => exact ⟨i0, [], _, ⟨Nat.zero_le _⟩, HI0, HLP, ⟨by repeat (first | (with_reducible first | exact HT.out | apply Toks.drewN | apply Toks.drew))⟩⟩
      case round =>
        clear HLP HI0 HSK HT hc0 hc1 hd0 hz0
        obtain ⟨i, out, v, HOL, HI, HF, HT⟩ := hrel
        obtain ⟨A1, cc1, rfl⟩ := Kd.R_slice HT.out.r
        have hc0 := HT.out.x.s
        have hc1 := HT.out.x.i
        have hd0 := (blk_cell HT.out.o 0).trans rfl
        have hz0 := blk_frozen HT.out.o 0
        cases gk with
        | zero => exact absurd HF.out (by simp [token_Tokens.l0])
        | succ k2 =>
          have hf := HF.out
          have hs := HS.out
          clear HF
          unfold token_Tokens.l0 at hf
          by_cases hlt : i < s.size
          · rw [if_pos hlt] at hf
            by_cases hol : out.length < 65536
            · rw [if_pos hol] at hf
              obtain ⟨⟨ce, kd, tx, nm, j⟩, hw, hf⟩ := Option.bind_eq_some_iff.mp hf
              try dsimp only at hf
              by_cases hce : ce = 0
              · subst hce
                rw [if_pos rfl] at hf
                have HW := Aside0.mk (wordE_ok hw)
                clear hw
                by_cases hj : j ≤ s.size
                · rw [if_pos hj] at hf
                  obtain ⟨⟨j2, ok⟩, hsk, hf⟩ := Option.bind_eq_some_iff.mp hf
                  try dsimp only at hf
                  by_cases hj2 : j2 ≤ s.size
                  · rw [if_pos hj2] at hf
                    cases ok
                    · rw [if_neg (by decide)] at hf
                      have HSK := Aside0.mk hsk
                      clear hsk
                      obtain ⟨rfl, rfl, rfl⟩ : ([] : List S29) = r0 ∧ (j2 : Int) = r1 ∧ (30 : Int) = r2 := by simpa only [Prod.mk.injEq] using Option.some.inj hf
                      have HJ := Aside0.mk hj
                      have HJ2 := Aside0.mk hj2
                      have HLIM := Aside0.mk hol
                      have q1 : (((i : Nat) : Int) < (s.size : Int)) = True := eq_true (by omega)
                      have q2 : decide (((i : Nat) : Int) < (s.size : Int)) = true := decide_eq_true (by omega)
                      have q3 : decide (i < s.size) = true := decide_eq_true hlt
                      have p3 : decide ((out.length : Int) ≥ 65536) = false := decide_eq_false (by omega)
                      have p4 : decide (65536 ≤ (out.length : Int)) = false := decide_eq_false (by omega)
                      clear hf hj hj2 hol hlt hs
                      go_wp2
                      refine wp_region_quiet_lit (by kernel_rfl) (by kernel_rfl) ?_
                      repeat (go_big_quiet_step (fail))
                      refine wpQuiet_nil ?_
                      intro _ hw'
                      obtain ⟨nq, hw''⟩ := hw'
                      subst hw''
                      go_upto_region 12 with (first | (go_at_call 9; with_reducible refine (wordG_calls k2 s g i j kd tx nm HS.out _ ?lx HW.out).mono ?_; (case lx => exact (by repeat (first | (with_reducible first | exact HT.out.x | apply Lx.drewN | apply Lx.drew)))); rintro e wd ⟨rfl, hx, hk⟩; have HT2 := Aside0.mk (Toks.lk (by repeat (first | (with_reducible first | exact HT.out | apply Toks.drewN | apply Toks.drew))) HP.out hk hx); clear hx hk HT hc0 hc1 hd0 hz0; have HT := HT2; clear HT2; have hc0 := HT.out.x.s; have hc1 := HT.out.x.i; have hd0 := (blk_cell HT.out.o 0).trans rfl; have hz0 := blk_frozen HT.out.o 0) | ((with_reducible refine gate_dst (N := 7) rfl ?_); (try (refine gate_guard (by rfl) ?_; dsimp only)); refine box_event ?hg (N := 7) ?hd (cs := #[.int .i64 0, .int .i64 0, .string (⟨#[]⟩ : ByteArray), .string (⟨#[]⟩ : ByteArray)]) (t := 29) ?hr ?_; (case hd => rfl); (case hg => rfl); (case hr => first | (go_simp; done) | (go_simp; rfl)); intro bt hg w7 hbox hb; have G7 := Aside0.mk hg; have K7 := Aside0.mk (show Tk w7 bt 0 0 ⟨#[]⟩ ⟨#[]⟩ from hbox); have LT0 := Aside0.mk (show bo < bt by rw [hg]; exact blk_lt HT.out.o); have LT1 := Aside0.mk (show ba < bt by rw [hg]; exact blk_lt HT.out.a); have LT2 := Aside0.mk (show be < bt by rw [hg]; exact blk_lt HT.out.e); have LT3 := Aside0.mk (show g < bt by rw [hg]; exact blk_lt HT.out.x); have LT4 := Aside0.mk (show (Value.slice A1 out.length cc1).ownBlock ≠ some bt from fun e => by have h1 := Kd.R_lt HT.out.r _ e; rw [hg] at h1; exact Nat.lt_irrefl _ h1); have LT5 := Aside0.mk (show w.heap.size ≤ bt by rw [hg]; exact below_size HT.out.b); have HT2 := Aside0.mk (Toks.below HT.out hb); clear hg hbox hb HT hc0 hc1 hd0 hz0; have HT := HT2; clear HT2; have he0 := LT0.out; have hne : bo ≠ bt := Nat.ne_of_lt LT0.out; have hne2 : bt ≠ bo := Nat.ne_of_gt LT0.out; have hc0 := HT.out.x.s; have hc1 := HT.out.x.i; have hd0 := (blk_cell HT.out.o 0).trans rfl; have hz0 := blk_frozen HT.out.o 0; have ht0 := K7.out.c0; have ht1 := K7.out.c1; have ht2 := K7.out.c2; have ht3 := K7.out.c3; have hf0 := K7.out.fz 0; have hf1 := K7.out.fz 1; have hf2 := K7.out.fz 2; have hf3 := K7.out.fz 3))
                      have HT8 : Aside0 (Toks w ((((w7.setCell ⟨bt, 0, none⟩ (.int .i64 kd)).setCell ⟨bt, 1, none⟩ (.int .i64 (i : Int))).setCell ⟨bt, 2, none⟩ (.string tx)).setCell ⟨bt, 3, none⟩ (.string nm)) bo ba be g s j out (.slice A1 out.length cc1)) := ⟨(Toks.far (Toks.far (Toks.far (Toks.far HT.out LT5.out (Nat.ne_of_lt LT0.out) (Nat.ne_of_lt LT1.out) (Nat.ne_of_lt LT2.out) (Nat.ne_of_lt LT3.out) LT4.out _ _) LT5.out (Nat.ne_of_lt LT0.out) (Nat.ne_of_lt LT1.out) (Nat.ne_of_lt LT2.out) (Nat.ne_of_lt LT3.out) LT4.out _ _) LT5.out (Nat.ne_of_lt LT0.out) (Nat.ne_of_lt LT1.out) (Nat.ne_of_lt LT2.out) (Nat.ne_of_lt LT3.out) LT4.out _ _) LT5.out (Nat.ne_of_lt LT0.out) (Nat.ne_of_lt LT1.out) (Nat.ne_of_lt LT2.out) (Nat.ne_of_lt LT3.out) LT4.out _ _)⟩
                      have K8 : Aside0 (Tk ((((w7.setCell ⟨bt, 0, none⟩ (.int .i64 kd)).setCell ⟨bt, 1, none⟩ (.int .i64 (i : Int))).setCell ⟨bt, 2, none⟩ (.string tx)).setCell ⟨bt, 3, none⟩ (.string nm)) bt kd (i : Int) tx nm) := ⟨Tk.set3 (Tk.set2 (Tk.set1 (Tk.set0 K7.out _) _) _) _⟩
                      clear HT K7 hc0 hc1 hd0 hz0 ht0 ht1 ht2 ht3 hf0 hf1 hf2 hf3 he0
                      generalize ((((w7.setCell ⟨bt, 0, none⟩ (.int .i64 kd)).setCell ⟨bt, 1, none⟩ (.int .i64 (i : Int))).setCell ⟨bt, 2, none⟩ (.string tx)).setCell ⟨bt, 3, none⟩ (.string nm)) = w8 at HT8 K8 ⊢
                      have hd0 := (blk_cell HT8.out.o 0).trans rfl
                      have hz0 := blk_frozen HT8.out.o 0
                      have ht0 := K8.out.c0
                      have ht1 := K8.out.c1
                      have ht2 := K8.out.c2
                      have ht3 := K8.out.c3
                      go_wp2_with (first | ((with_reducible refine gate_builtin (b := .append) (xs := #[.tmp 42, .tmp 44]) rfl ?_); at_builtin; refine Kd.R_append k29 (w0 := w) w.heap.size rfl (.tmp 42) (.tmp 44) 24 29 (.agg #[.int .i64 0, .int .i64 0, .string (⟨#[]⟩ : ByteArray), .string (⟨#[]⟩ : ByteArray)]) 48 rfl Try.underlying24 infoT rfl (by decide) (by omega) (.slice A1 out.length cc1) out ⟨kd, (i : Int), tx, nm⟩ [.int .i64 kd, .int .i64 (i : Int), .string tx, .string nm] (fun k => k ≠ bo ∧ k ≠ ba ∧ k ≠ be ∧ k ≠ g) (fun _ => False) rfl rfl ?aP (fun _ hk => hk.elim) ?aF ?aO ?aB ?aS ?aL ?_; (case aP => exact k29_mkM _ _ _ ⟨kd, (i : Int), tx, nm⟩); (case aB => exact HT8.out.b); (case aF => exact (fun k hk => by have := blk_lt HT8.out.o; have := blk_lt HT8.out.a; have := blk_lt HT8.out.e; have := blk_lt HT8.out.x; exact ⟨by omega, by omega, by omega, by omega⟩)); (case aO => exact HT8.out.r); (case aS => exact (below_size HT8.out.b)); (case aL => have := HLIM.out; omega); intro v1 W9 ho hb hg hat; obtain ⟨A2, cc2, rfl⟩ := Kd.R_slice ho; rw [List.length_append, List.length_singleton] at ho; have HT := Aside0.mk (Toks.set HT8.out HP.out hg ho hb); have hn0 : some bo ≠ (Value.slice A1 out.length cc1).ownBlock := fun e => (HT8.out.r.1 bo e.symm).1 rfl; have hz9 := blk_frozen (blk_grown HT8.out.o hg hn0) 0; have hy9 := (blk_cell (blk_grown HT8.out.o hg hn0) 0).trans rfl; clear ho hb hg hat hn0) | (go_at_call 8; with_reducible refine (skipE_calls k2 s g j (j2, false) HS6.out HJ.out _ ?lx ?hm ?hg HSK.out).mono ?_; (case lx => exact (by repeat (first | (with_reducible first | exact HT.out.x | apply Lx.drewN | apply Lx.drew)))); (case hm => exact Toks.ml (by repeat (first | (with_reducible first | exact HT.out | apply Toks.drewN | apply Toks.drew))) HM.out); (case hg => exact HP.out.ml HM.out); intro e wk hsr; obtain ⟨rfl, hk⟩ := hsr.dead; clear hsr; have HD := Aside0.mk (Toks.dead (by repeat (first | (with_reducible first | exact HT.out | apply Toks.drewN | apply Toks.drew))) HP.out hk); clear hk))
                      obtain ⟨D0, D1, D2, DB⟩ := HD.out
                      refine leaves_cons (f := 7) (args := #[.pointer (some ⟨bo, 0, none⟩), .pointer (some ⟨ba, 0, none⟩), .pointer (some ⟨be, 0, none⟩)]) (by simp) (by simp [go_sem]) ?_
                      refine (tokens_caught w.heap.size bo ba be j2 30 _ _ D0 D1 D2 HP.out.l1 HP.out.l2 HP.out.l0).mono ?_
                      rintro e u' w'' ⟨rfl, rfl, F0, F1, F2, FB⟩
                      refine ⟨.tuple #[.slice none 0 0, .int .i64 (j2 : Int), .int .i64 30], ?_, ⟨_, rfl, Kd.R_nil _ _ _ _ _, DB.trans FB⟩⟩
                      simp [results, Try.results6, go_sem, F0, F1, F2]
                    · rw [if_pos rfl] at hf
                      have HSK := Aside0.mk hsk
                      clear hsk
                      have HF := Aside0.mk hf
                      have HJ := Aside0.mk hj
                      have HJ2 := Aside0.mk hj2
                      have HLIM := Aside0.mk hol
                      have q1 : (((i : Nat) : Int) < (s.size : Int)) = True := eq_true (by omega)
                      have q2 : decide (((i : Nat) : Int) < (s.size : Int)) = true := decide_eq_true (by omega)
                      have q3 : decide (i < s.size) = true := decide_eq_true hlt
                      have p3 : decide ((out.length : Int) ≥ 65536) = false := decide_eq_false (by omega)
                      have p4 : decide (65536 ≤ (out.length : Int)) = false := decide_eq_false (by omega)
                      clear hf hj hj2 hol hlt hs
                      go_wp2
                      refine wp_region_quiet_lit (by kernel_rfl) (by kernel_rfl) ?_
                      repeat (go_big_quiet_step (fail))
                      refine wpQuiet_nil ?_
                      intro _ hw'
                      obtain ⟨nq, hw''⟩ := hw'
                      subst hw''
                      go_upto_region 12 with (first | (go_at_call 9; with_reducible refine (wordG_calls k2 s g i j kd tx nm HS.out _ ?lx HW.out).mono ?_; (case lx => exact (by repeat (first | (with_reducible first | exact HT.out.x | apply Lx.drewN | apply Lx.drew)))); rintro e wd ⟨rfl, hx, hk⟩; have HT2 := Aside0.mk (Toks.lk (by repeat (first | (with_reducible first | exact HT.out | apply Toks.drewN | apply Toks.drew))) HP.out hk hx); clear hx hk HT hc0 hc1 hd0 hz0; have HT := HT2; clear HT2; have hc0 := HT.out.x.s; have hc1 := HT.out.x.i; have hd0 := (blk_cell HT.out.o 0).trans rfl; have hz0 := blk_frozen HT.out.o 0) | ((with_reducible refine gate_dst (N := 7) rfl ?_); (try (refine gate_guard (by rfl) ?_; dsimp only)); refine box_event ?hg (N := 7) ?hd (cs := #[.int .i64 0, .int .i64 0, .string (⟨#[]⟩ : ByteArray), .string (⟨#[]⟩ : ByteArray)]) (t := 29) ?hr ?_; (case hd => rfl); (case hg => rfl); (case hr => first | (go_simp; done) | (go_simp; rfl)); intro bt hg w7 hbox hb; have G7 := Aside0.mk hg; have K7 := Aside0.mk (show Tk w7 bt 0 0 ⟨#[]⟩ ⟨#[]⟩ from hbox); have LT0 := Aside0.mk (show bo < bt by rw [hg]; exact blk_lt HT.out.o); have LT1 := Aside0.mk (show ba < bt by rw [hg]; exact blk_lt HT.out.a); have LT2 := Aside0.mk (show be < bt by rw [hg]; exact blk_lt HT.out.e); have LT3 := Aside0.mk (show g < bt by rw [hg]; exact blk_lt HT.out.x); have LT4 := Aside0.mk (show (Value.slice A1 out.length cc1).ownBlock ≠ some bt from fun e => by have h1 := Kd.R_lt HT.out.r _ e; rw [hg] at h1; exact Nat.lt_irrefl _ h1); have LT5 := Aside0.mk (show w.heap.size ≤ bt by rw [hg]; exact below_size HT.out.b); have HT2 := Aside0.mk (Toks.below HT.out hb); clear hg hbox hb HT hc0 hc1 hd0 hz0; have HT := HT2; clear HT2; have he0 := LT0.out; have hne : bo ≠ bt := Nat.ne_of_lt LT0.out; have hne2 : bt ≠ bo := Nat.ne_of_gt LT0.out; have hc0 := HT.out.x.s; have hc1 := HT.out.x.i; have hd0 := (blk_cell HT.out.o 0).trans rfl; have hz0 := blk_frozen HT.out.o 0; have ht0 := K7.out.c0; have ht1 := K7.out.c1; have ht2 := K7.out.c2; have ht3 := K7.out.c3; have hf0 := K7.out.fz 0; have hf1 := K7.out.fz 1; have hf2 := K7.out.fz 2; have hf3 := K7.out.fz 3))
                      have HT8 : Aside0 (Toks w ((((w7.setCell ⟨bt, 0, none⟩ (.int .i64 kd)).setCell ⟨bt, 1, none⟩ (.int .i64 (i : Int))).setCell ⟨bt, 2, none⟩ (.string tx)).setCell ⟨bt, 3, none⟩ (.string nm)) bo ba be g s j out (.slice A1 out.length cc1)) := ⟨(Toks.far (Toks.far (Toks.far (Toks.far HT.out LT5.out (Nat.ne_of_lt LT0.out) (Nat.ne_of_lt LT1.out) (Nat.ne_of_lt LT2.out) (Nat.ne_of_lt LT3.out) LT4.out _ _) LT5.out (Nat.ne_of_lt LT0.out) (Nat.ne_of_lt LT1.out) (Nat.ne_of_lt LT2.out) (Nat.ne_of_lt LT3.out) LT4.out _ _) LT5.out (Nat.ne_of_lt LT0.out) (Nat.ne_of_lt LT1.out) (Nat.ne_of_lt LT2.out) (Nat.ne_of_lt LT3.out) LT4.out _ _) LT5.out (Nat.ne_of_lt LT0.out) (Nat.ne_of_lt LT1.out) (Nat.ne_of_lt LT2.out) (Nat.ne_of_lt LT3.out) LT4.out _ _)⟩
                      have K8 : Aside0 (Tk ((((w7.setCell ⟨bt, 0, none⟩ (.int .i64 kd)).setCell ⟨bt, 1, none⟩ (.int .i64 (i : Int))).setCell ⟨bt, 2, none⟩ (.string tx)).setCell ⟨bt, 3, none⟩ (.string nm)) bt kd (i : Int) tx nm) := ⟨Tk.set3 (Tk.set2 (Tk.set1 (Tk.set0 K7.out _) _) _) _⟩
                      clear HT K7 hc0 hc1 hd0 hz0 ht0 ht1 ht2 ht3 hf0 hf1 hf2 hf3 he0
                      generalize ((((w7.setCell ⟨bt, 0, none⟩ (.int .i64 kd)).setCell ⟨bt, 1, none⟩ (.int .i64 (i : Int))).setCell ⟨bt, 2, none⟩ (.string tx)).setCell ⟨bt, 3, none⟩ (.string nm)) = w8 at HT8 K8 ⊢
                      have hd0 := (blk_cell HT8.out.o 0).trans rfl
                      have hz0 := blk_frozen HT8.out.o 0
                      have ht0 := K8.out.c0
                      have ht1 := K8.out.c1
                      have ht2 := K8.out.c2
                      have ht3 := K8.out.c3
                      go_wp2_with (first | ((with_reducible refine gate_builtin (b := .append) (xs := #[.tmp 42, .tmp 44]) rfl ?_); at_builtin; refine Kd.R_append k29 (w0 := w) w.heap.size rfl (.tmp 42) (.tmp 44) 24 29 (.agg #[.int .i64 0, .int .i64 0, .string (⟨#[]⟩ : ByteArray), .string (⟨#[]⟩ : ByteArray)]) 48 rfl Try.underlying24 infoT rfl (by decide) (by omega) (.slice A1 out.length cc1) out ⟨kd, (i : Int), tx, nm⟩ [.int .i64 kd, .int .i64 (i : Int), .string tx, .string nm] (fun k => k ≠ bo ∧ k ≠ ba ∧ k ≠ be ∧ k ≠ g) (fun _ => False) rfl rfl ?aP (fun _ hk => hk.elim) ?aF ?aO ?aB ?aS ?aL ?_; (case aP => exact k29_mkM _ _ _ ⟨kd, (i : Int), tx, nm⟩); (case aB => exact HT8.out.b); (case aF => exact (fun k hk => by have := blk_lt HT8.out.o; have := blk_lt HT8.out.a; have := blk_lt HT8.out.e; have := blk_lt HT8.out.x; exact ⟨by omega, by omega, by omega, by omega⟩)); (case aO => exact HT8.out.r); (case aS => exact (below_size HT8.out.b)); (case aL => have := HLIM.out; omega); intro v1 W9 ho hb hg hat; obtain ⟨A2, cc2, rfl⟩ := Kd.R_slice ho; rw [List.length_append, List.length_singleton] at ho; have HT := Aside0.mk (Toks.set HT8.out HP.out hg ho hb); have hn0 : some bo ≠ (Value.slice A1 out.length cc1).ownBlock := fun e => (HT8.out.r.1 bo e.symm).1 rfl; have hz9 := blk_frozen (blk_grown HT8.out.o hg hn0) 0; have hy9 := (blk_cell (blk_grown HT8.out.o hg hn0) 0).trans rfl; clear ho hb hg hat hn0) | (go_at_call 8; with_reducible refine (skipE_calls k2 s g j (j2, true) HS6.out HJ.out _ ?lx ?hm ?hg HSK.out).mono ?_; (case lx => exact (by repeat (first | (with_reducible first | exact HT.out.x | apply Lx.drewN | apply Lx.drew)))); (case hm => exact Toks.ml (by repeat (first | (with_reducible first | exact HT.out | apply Toks.drewN | apply Toks.drew))) HM.out); (case hg => exact HP.out.ml HM.out); intro e wk hsr; obtain ⟨rfl, hx, hk⟩ := hsr.out; clear hsr; have HT2 := Aside0.mk (Toks.lk (by repeat (first | (with_reducible first | exact HT.out | apply Toks.drewN | apply Toks.drew))) HP.out hk hx); clear hx hk HT; have HT := HT2; clear HT2; have hc0 := HT.out.x.s; have hc1 := HT.out.x.i; have hd0 := (blk_cell HT.out.o 0).trans rfl; have hz0 := blk_frozen HT.out.o 0))
                      go_roundg k2
                      case measure => omega
                      case rel => exact ⟨j2, out ++ [⟨kd, (i : Int), tx, nm⟩], _, ⟨by rw [List.length_append, List.length_singleton]; have := HLIM.out; omega⟩, HJ2, HF, ⟨by repeat (first | (with_reducible first | exact HT.out | apply Toks.drewN | apply Toks.drew))⟩⟩
                  · rw [if_neg hj2] at hf
                    cases hf
                · rw [if_neg hj] at hf
                  cases hf
              · rw [if_neg hce] at hf
                obtain ⟨rfl, rfl, rfl⟩ : ([] : List S29) = r0 ∧ (i : Int) = r1 ∧ (ce : Int) = r2 := by simpa only [Prod.mk.injEq] using Option.some.inj hf
                have HW := Aside0.mk (wordE_no hw hce)
                have q1 : (((i : Nat) : Int) < (s.size : Int)) = True := eq_true (by omega)
                have q2 : decide (((i : Nat) : Int) < (s.size : Int)) = true := decide_eq_true (by omega)
                have q3 : decide (i < s.size) = true := decide_eq_true hlt
                have p3 : decide ((out.length : Int) ≥ 65536) = false := decide_eq_false (by omega)
                have p4 : decide (65536 ≤ (out.length : Int)) = false := decide_eq_false (by omega)
                clear hf hw hce hol hlt hs
                go_wp2
                refine wp_region_quiet_lit (by kernel_rfl) (by kernel_rfl) ?_
                repeat (go_big_quiet_step (fail))
                refine wpQuiet_nil ?_
                intro _ hw'
                obtain ⟨nq, hw''⟩ := hw'
                subst hw''
                go_wp2_with (first | (go_at_call 9; with_reducible refine (word_dies k2 s g i ce HS.out _ ?lx HW.out).mono ?_; (case lx => exact (by repeat (first | (with_reducible first | exact HT.out.x | apply Lx.drewN | apply Lx.drew)))); rintro e wd ⟨rfl, hk⟩; have HD := Aside0.mk (Toks.dead (by repeat (first | (with_reducible first | exact HT.out | apply Toks.drewN | apply Toks.drew))) HP.out hk); clear hk))
                obtain ⟨D0, D1, D2, DB⟩ := HD.out
                refine leaves_cons (f := 7) (args := #[.pointer (some ⟨bo, 0, none⟩), .pointer (some ⟨ba, 0, none⟩), .pointer (some ⟨be, 0, none⟩)]) (by simp) (by simp [go_sem]) ?_
                refine (tokens_caught w.heap.size bo ba be i ce _ _ D0 D1 D2 HP.out.l1 HP.out.l2 HP.out.l0).mono ?_
                rintro e u' w'' ⟨rfl, rfl, F0, F1, F2, FB⟩
                refine ⟨.tuple #[.slice none 0 0, .int .i64 (i : Int), .int .i64 ce], ?_, ⟨_, rfl, Kd.R_nil _ _ _ _ _, DB.trans FB⟩⟩
                simp [results, Try.results6, go_sem, F0, F1, F2]
            · rw [if_neg hol] at hf
              cases hf
          · rw [if_neg hlt] at hf
            obtain ⟨rfl, rfl, rfl⟩ : out ++ [(⟨8, (s.size : Int), ⟨#[]⟩, ⟨#[]⟩⟩ : S29)] = r0 ∧ (0 : Int) = r1 ∧ (0 : Int) = r2 := by simpa only [Prod.mk.injEq] using Option.some.inj hf
            have HLIM := Aside0.mk (show out.length < 1000000 by have := HOL.out; omega)
            have q1 : (((i : Nat) : Int) < (s.size : Int)) = False := eq_false (by omega)
            have q2 : decide (((i : Nat) : Int) < (s.size : Int)) = false := decide_eq_false (by omega)
            have q3 : decide (i < s.size) = false := decide_eq_false hlt
            clear hf hlt hs
            go_wp2
            refine wp_region_quiet_lit (by kernel_rfl) (by kernel_rfl) ?_
            repeat (go_big_quiet_step (fail))
            refine wpQuiet_nil ?_
            intro _ hw'
            obtain ⟨nq, hw''⟩ := hw'
            subst hw''
            go_wp2
            refine Code.wp_mono QN.to ?_
            have HT3 : Aside0 (Toks w (wr.drewN nq).drew bo ba be g s i out (.slice A1 out.length cc1)) := ⟨(HT.out.drewN nq).drew⟩
            refine start_ (n := 12) (S := (fun w' => w'.cell? ⟨bo, 0, none⟩ = some (.slice A1 out.length cc1) ∧ w'.cell? ⟨g, 0, none⟩ = some (.string s))) (ds := [9, 10, 11]) #[false, false, false, false, false, false, false, false, false, false, false, false] (by kernel_rfl) rfl rfl ⟨(blk_cell HT3.out.o 0).trans rfl, HT3.out.x.s⟩ (fun hHeld => ?_)
            refine with_tabW token_Tokens.tab13 token_Tokens.bits13 (fun HT_ HW_ => ?_)
            generalize (wr.drewN nq).drew = W3 at HT3 hHeld ⊢
            refine tas_ 0 (some 46) #[true, false, false, false, false, false, false, false, false, false, false, false] rfl rfl HT_.out HW_.out hHeld ?_
            refine pus_ 1 (some 47) #[true, true, false, false, false, false, false, false, false, false, false, false] rfl rfl HT_.out ?_
            refine pus_ 2 (some 48) #[true, true, true, false, false, false, false, false, false, false, false, false] rfl rfl HT_.out ?_
            refine pus_ 3 (some 49) #[true, true, true, true, false, false, false, false, false, false, false, false] rfl rfl HT_.out ?_
            refine tas_ 4 (some 50) #[true, true, true, true, true, false, false, false, false, false, false, false] rfl rfl HT_.out HW_.out hHeld ?_
            refine pus_ 5 (some 51) #[true, true, true, true, true, true, false, false, false, false, false, false] rfl rfl HT_.out ?_
            refine pus_ 6 (some 52) #[true, true, true, true, true, true, true, false, false, false, false, false] rfl rfl HT_.out ?_
            refine one_ (i := 7) (N := (some 53)) #[true, true, true, true, true, true, true, true, false, false, false, false] rfl rfl (one_of HT_.out (by kernel_rfl)) (by decide) (fun K hK => ?_)
            refine value_ (w1 := ?_) (v := ?_) (by rfl) rfl ?_ ?_
            rotate_left 2
            ·go_simp
             constructor
             ·rfl
             ·rfl
            refine hK.out _ _ ⟨(blk_cell (blk_alloc HT3.out.o _) 0).trans rfl, (Lx.below HT3.out.x (below_alloc (Below.refl _ _) _)).s⟩ (fun hHeld => ?_)
            clear hK K
            refine norm_ (a' := ?_) ?_ ?_
            rotate_left
            ·show Act.put _ (some 53) _ = _
             simp only [Act.put, List.setIfInBounds_toArray, List.set_cons_zero, List.set_cons_succ, i64_w, i32_w]
             rfl
            refine one_ (i := 8) (N := (some 54)) #[true, true, true, true, true, true, true, true, true, false, false, false] rfl rfl (one_of HT_.out (by kernel_rfl)) (by decide) (fun K hK => ?_)
            refine Kd.R_append_step k29 (w0 := w) w.heap.size (by rfl) (.tmp 46) (.tmp 53) 24 29 (.agg #[.int .i64 0, .int .i64 0, .string (⟨#[]⟩ : ByteArray), .string (⟨#[]⟩ : ByteArray)]) 48 rfl Try.underlying24 infoT rfl (by decide) (by omega) (.slice A1 out.length cc1) out ⟨8, (s.size : Int), ⟨#[]⟩, ⟨#[]⟩⟩ [.int .i64 8, .int .i64 (s.size : Int), .string (⟨#[]⟩ : ByteArray), .string (⟨#[]⟩ : ByteArray)] (fun k => k ≠ bo ∧ k ≠ ba ∧ k ≠ be ∧ k ≠ g) (fun _ => False) rfl rfl ?aP (fun _ hk => hk.elim) ?aF ?aO ?aB ?aS ?aL ?_
            (case aP => exact k29_mkM _ _ _ ⟨8, (s.size : Int), ⟨#[]⟩, ⟨#[]⟩⟩)
            (case aB => exact HT3.out.b)
            (case aF => exact (fun k hk => by have := blk_lt HT3.out.o; have := blk_lt HT3.out.a; have := blk_lt HT3.out.e; have := blk_lt HT3.out.x; exact ⟨by omega, by omega, by omega, by omega⟩))
            (case aO => exact HT3.out.r)
            (case aS => exact (below_size HT3.out.b))
            (case aL => have := HLIM.out; omega)
            intro v1 W4 ho hb hg hat
            obtain ⟨A2, cc2, rfl⟩ := Kd.R_slice ho
            rw [List.length_append, List.length_singleton] at ho
            have HO := Aside0.mk ho
            have HT4 := Aside0.mk (Toks.set HT3.out HP.out hg HO.out hb)
            have hn0 : some bo ≠ (Value.slice A1 out.length cc1).ownBlock := fun e => (HT3.out.r.1 bo e.symm).1 rfl
            have hn1 : some ba ≠ (Value.slice A1 out.length cc1).ownBlock := fun e => (HT3.out.r.1 ba e.symm).2.1 rfl
            have hn2 : some be ≠ (Value.slice A1 out.length cc1).ownBlock := fun e => (HT3.out.r.1 be e.symm).2.2.1 rfl
            have hn3 : some g ≠ (Value.slice A1 out.length cc1).ownBlock := fun e => (HT3.out.r.1 g e.symm).2.2.2 rfl
            have HB0 := Aside0.mk (blk_grown HT3.out.o hg hn0)
            have HB1 := Aside0.mk (blk_grown HT3.out.a hg hn1)
            have HB2 := Aside0.mk (blk_grown HT3.out.e hg hn2)
            have HB3 : Aside0 (Lx W4 g s i) := ⟨blk_grown HT3.out.x hg hn3⟩
            have hz0 := blk_frozen HB0.out 0
            have hz1 := blk_frozen HB1.out 0
            have hz2 := blk_frozen HB2.out 0
            have hy0 : W4.cell? ⟨bo, 0, none⟩ = some (.slice A1 out.length cc1) := (blk_cell HB0.out 0).trans rfl
            have hy1 : W4.cell? ⟨ba, 0, none⟩ = some (.int .i64 0) := (blk_cell HB1.out 0).trans rfl
            have hy2 : W4.cell? ⟨be, 0, none⟩ = some (.int .i64 0) := (blk_cell HB2.out 0).trans rfl
            have e0 : ba ≠ bo := by have := HP.out.l1; omega
            have e1 : be ≠ bo := by have := HP.out.l1; have := HP.out.l2; omega
            have e2 : be ≠ ba := by have := HP.out.l2; omega
            have e3 : bo ≠ ba := e0.symm
            have e4 : bo ≠ be := e1.symm
            have e5 : ba ≠ be := e2.symm
            clear hb hg hat hn0 hn1 hn2 hn3 ho
            refine hK.out _ _ ⟨(blk_cell HB0.out 0).trans rfl, HB3.out.s⟩ (fun hHeld => ?_)
            clear hK K
            refine norm_ (a' := ?_) ?_ ?_
            rotate_left
            ·show Act.put _ (some 54) _ = _
             simp only [Act.put, List.setIfInBounds_toArray, List.set_cons_zero, List.set_cons_succ, i64_w, i32_w]
             rfl
            refine last_ (i := 9) (N := none) #[true, true, true, true, true, true, true, true, true, true, false, false] rfl rfl (one_of HT_.out (by kernel_rfl)) (by decide) (fun K hK => ?_)
            refine skip_ (w1 := ?_) (by rfl) rfl ?_ ?_
            rotate_left
            ·go_simp
             rfl
            refine hK.out _ _ ?_
            clear hK K
            refine last_ (i := 10) (N := none) #[true, true, true, true, true, true, true, true, true, true, true, false] rfl rfl (one_of HT_.out (by kernel_rfl)) (by decide) (fun K hK => ?_)
            refine skip_ (w1 := ?_) (by rfl) rfl ?_ ?_
            rotate_left
            ·go_simp
             rfl
            refine hK.out _ _ ?_
            clear hK K
            refine last_ (i := 11) (N := none) #[true, true, true, true, true, true, true, true, true, true, true, true] rfl rfl (one_of HT_.out (by kernel_rfl)) (by decide) (fun K hK => ?_)
            refine skip_ (w1 := ?_) (by rfl) rfl ?_ ?_
            rotate_left
            ·go_simp
             rfl
            refine hK.out _ _ ?_
            clear hK K
            refine done_ (done_of HT_.out (by kernel_rfl)) ?_
            dsimp only [QN]
            go_wp2
            refine leaves_cons (f := 7) (args := #[.pointer (some ⟨bo, 0, none⟩), .pointer (some ⟨ba, 0, none⟩), .pointer (some ⟨be, 0, none⟩)]) (by simp) (by simp [go_sem]) ?_
            refine (tokens_idle bo ba be _).mono ?_
            rintro e u' w'' ⟨rfl, rfl, rfl⟩
            obtain ⟨F0, F1, F2, FR, FB⟩ := Toks.fin HT4.out HP.out
            refine ⟨.tuple #[.slice A2 (out.length + 1) cc2, .int .i64 0, .int .i64 0], ?_, ⟨_, rfl, FR, FB⟩⟩
            simp [results, Try.results6, go_sem, F0, F1, F2]
    · rw [if_neg hi0] at h
      cases h
  · rw [if_neg hl] at h
    cases h
end Go.Proofs.Ytholgbdfflabhaa.Giv
end
