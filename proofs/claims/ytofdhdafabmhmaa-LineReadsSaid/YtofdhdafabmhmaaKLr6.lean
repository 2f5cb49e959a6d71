/- LineReadsSaid, part 7 of 13: contracts of the program's functions, the words that they use, and the plain laws on what they compute. Conditions: none beyond what the statements say. -/
import Derived.Test.YtofdhdafabmhmaaKLr0
import Derived.Test.YtofdhdafabmhmaaKLr1
import Derived.Test.YtofdhdafabmhmaaKLr4
import Derived.Test.YtofdhdafabmhmaaKLr5
import Derived.BigRegion
import Derived.BigQuiet
import Derived.Deep.QuietTactic
import Derived.Test.YtofdhdafabmhmaaKLr3
set_option linter.unusedVariables false
set_option linter.unusedSimpArgs false
section
namespace Go.Proofs.Ytofdhdafabmhmaa.Giv
open Go.RowKit Go.Proofs.YtofdhdafabmhmaaW.PrintWords Go.Proofs.YtofdhdafabmhmaaW.PrintLast Go.Proofs.YtofdhdafabmhmaaW.PrintMore Go.Proofs.Ytofdhdafabmhmaa.PLr
open Go.Proofs.Ytofdhdafabmhmaa.Opn Go.BigFrame
theorem lt0_ {T e : TypeId} {B b : Nat} {l : List Value} {w : World} (h : Lib.IsBuilder T e B b l w) : b < w.heap.size := by
  rcases h with h | h
  · exact h.lt
  exact h.lt
theorem _root_.Go.Lib.IsBuilder.lt0 {T e : TypeId} {B b : Nat} {l : List Value} {w : World} (h : Lib.IsBuilder T e B b l w) : b < w.heap.size := lt0_ h
/-- What an identifier means, and where it ends. -/
def identF : Nat → ByteArray → Nat → List UInt8 → Option (List UInt8 × Nat)
  | 0, _, _, _ => none
  | k + 1, s, i, acc => (isF token_lexer_ident_1.f s i).bind fun a => if a = true then (if i < s.size then (if acc.length ≤ 10000000 then identF k s (i + 1) (acc ++ [byteAt s i]) else none) else none)
    else ((escF k s i).bind fun e => if e = true then ((token_Hex.f k s (i : Int)).bind fun t => if 0 ≤ t.2 then (if i + t.2.toNat ≤ s.size then (if acc.length + t.1.size ≤ 10000000 then identF k s (i + t.2.toNat) (acc ++ t.1.data.toList) else none) else none) else none) else some (acc, i))
theorem identF.mono : ∀ k s i acc, LeO (identF k s i acc) (identF (k + 1) s i acc)
  | 0, s, i, acc => LeO.none _
  | k + 1, s, i, acc => by
    rw [identF, identF]; repeat' first
      | exact identF.mono k _ _ _
      | (with_reducible exact escF.mono _ _ _)
      | (with_reducible exact token_Hex.mono _ _ _)
      | (with_reducible first | exact LeO.refl _ | exact LeO.none _ | refine LeO.ite ?_ ?_ | refine LeO.bind ?_ (fun _ => ?_))
def lexer_ident.T5 : Bool × List (List Nat × List Nat) := (true, [([], []), ([0], [0]), ([1], [1]), ([2], [2]), ([], []), ([4], [4]), ([5], [5]), ([6], [6]), ([3, 7], [3, 7]), ([8], [8])])
def lexer_ident.B5 : List Nat := [0, 1, 3, 7, 0, 16, 48, 112, 255, 511]
theorem lexer_ident.tab5 : rtab .any (opsOf Try.f59 5) = lexer_ident.T5 := by kernel_rfl
theorem lexer_ident.bits5 : waitsOk lexer_ident.T5.2 lexer_ident.B5 = true := by kernel_rfl
def lexer_ident.T8 : Bool × List (List Nat × List Nat) := (true, [([], []), ([0], [0]), ([1], [1]), ([2], [2]), ([], []), ([4], [4]), ([5], [5]), ([6], [6]), ([3, 7], [3, 7]), ([8], [8]), ([9], [9]), ([9], [9]), ([10, 8, 0, 1, 2, 3, 4, 5, 6, 7, 8, 9, 10], [10]), ([11, 12, 0, 1, 2, 3, 4, 5, 6, 7, 8, 9, 10, 11, 12], [11])])
def lexer_ident.B8 : List Nat := [0, 1, 3, 7, 0, 16, 48, 112, 255, 511, 1023, 1023, 2047, 8191]
theorem lexer_ident.tab8 : rtab .any (opsOf Try.f59 8) = lexer_ident.T8 := by kernel_rfl
theorem lexer_ident.bits8 : waitsOk lexer_ident.T8.2 lexer_ident.B8 = true := by kernel_rfl
set_option maxHeartbeats 8000000 in
set_option maxRecDepth 100000 in
theorem ident_calls (k : Nat) (s : ByteArray) (g i j : Nat) (l : List UInt8) (hs : s.size ≤ 140737488351232) (hi : i ≤ s.size) (w : World) (h : Lx w g s i) (hf : identF k s i [] = some (l, j)) :
    Calls Try.prog 59 #[.pointer (some ⟨g, 0, none⟩)] w fun e w' => e = .returned (.string ⟨l.toArray⟩) ∧ Lx w' g s j ∧ Lk g w w' := by
  have hu := Try.underlying77; have HS := am_ hs; have HF := am_ hf; have H1 := am_ h; have HI := am_ hi; have hg := (Array.getElem?_eq_some_iff.1 h).1; have HG := am_ hg; have hfr := Lib.fresh_isBuilder 100 5 w; have HFR := am_ hfr; clear hf h hs hi hg hfr; go_enter Try.func59, Try.ntmps59
  go_wp2; go_loopg [] k (fun kq wr => ∃ (i : Nat) (acc : List UInt8), Aside0 (i ≤ s.size) ∧ Aside0 (identF kq s i acc = some (l, j)) ∧ Aside0 (Lx wr g s i) ∧ Aside0 (Lk g w wr) ∧ Aside0 (Lib.IsBuilder 100 5 w.heap.size w.heap.size (Lib.byteCells acc) wr))
  case atStart => exact ⟨i, [], HI, HF, ⟨Lx.below H1.out ((Below.refl _ _).alloc (Nat.le_refl _) _)⟩, ⟨Lk.of_below ((Below.refl _ _).alloc (Nat.le_refl _) _)⟩, HFR⟩
  case round =>
    clear HF H1 HI HFR; obtain ⟨i, acc, HI, HF, HX, HK, HD⟩ := hrel
    cases gk with
    | zero => exact absurd HF.out (by simp [identF])
    | succ k2 =>
      have hf := HF.out; have hi := HI.out; have hs := HS.out; have HJ := am_ (show i ≤ 140737488351300 by omega); have HW0 := am_ (show IntKind.i64.wrap (i : Int) = (i : Int) from wrapE i 0 (by omega)); clear HF; rw [identF] at hf; obtain ⟨a, ha, hf⟩ := bs_ hf; have A1 := am_ ha; clear ha; cases a
      · rw [if_neg (by decide)] at hf
        obtain ⟨e, he, hf⟩ := bs_ hf; have A2 := am_ he; clear he; cases e
        · rw [if_neg (by decide)] at hf
          obtain ⟨rfl, rfl⟩ := Prod.mk.inj (si_ hf); clear hf hi hs; go_wp2_with (first | (go_at_call 56; with_reducible refine (is_inner0 s g i i HS.out HW0.out _ _ ?lx A1.out).mono ?_; (case lx => exact (by repeat (first | (with_reducible first | exact HX.out | apply Lx.drewN | apply Lx.drew)))); rintro e wi ⟨rfl, ⟨ni, rfl⟩⟩) | (go_at_call 75; with_reducible refine (escape_0 k2 s g i i HS.out HJ.out HW0.out _ _ ?lx A2.out).mono ?_; (case lx => exact (by repeat (first | (with_reducible first | exact HX.out | apply Lx.drewN | apply Lx.drew)))); rintro e wi ⟨rfl, hb⟩; have HX2 := am_ (Lx.below (by repeat (first | (with_reducible first | exact HX.out | apply Lx.drewN | apply Lx.drew))) hb); have HK2 := am_ (Lk.call (by repeat (first | (with_reducible first | exact HK.out | apply Lk.drewN | apply Lk.drew | apply Lk.set))) hb); have HD2 := am_ (isB_call (by repeat (first | (with_reducible first | exact HD.out | apply isB_drewN | apply isB_drew))) hb); clear hb; clear HX HK HD; have HX := HX2; have HK := HK2; have HD := HD2; clear HX2 HK2 HD2; have hc0 := HX.out.s; have hc1 := HX.out.i; have hz1 := HX.out.fz) | (go_at_call 81; refine (Try.Builder_String_any w.heap.size w.heap.size acc _ (by repeat (first | (with_reducible first | exact HD.out | apply isB_drewN | apply isB_drew))) (Nat.le_of_lt HD.out.lt0)).mono ?_; rintro e w7 ⟨rfl, hb7⟩; have HX7 := am_ (Lx.lower (by repeat (first | (with_reducible first | exact HX.out | apply Lx.drewN | apply Lx.drew))) hb7 HG.out); have HK7 := am_ (Lk.lower (by repeat (first | (with_reducible first | exact HK.out | apply Lk.drewN | apply Lk.drew | apply Lk.set))) hb7 (Nat.le_refl _)); clear hb7))
          go_ret
          exact ⟨rfl, HX7.out, HK7.out⟩
        rw [if_pos rfl] at hf; obtain ⟨⟨x, n⟩, hx, hf⟩ := bs_ hf; have A3 := am_ hx; clear hx; try dsimp only at hf
        by_cases h1 : 0 ≤ n
        · rw [if_pos h1] at hf
          by_cases h2 : i + n.toNat ≤ s.size
          · rw [if_pos h2] at hf
            by_cases h3 : acc.length + x.size ≤ 10000000
            · rw [if_pos h3] at hf
              have A4 := am_ hf; have HI2 := am_ h2; have HLEN := am_ (show (Lib.byteCells acc).length + x.size ≤ 140737488355328 by unfold Lib.byteCells; rw [List.length_map]; omega); have hwn : wrap64 ((i : Int) + n) = ((i + n.toNat : Nat) : Int) := by unfold wrap64; omega
              have HWN := am_ hwn; clear hf h1 h2 h3 hwn hi hs; go_wp2_with (first | (go_at_call 56; with_reducible refine (is_inner0 s g i i HS.out HW0.out _ _ ?lx A1.out).mono ?_; (case lx => exact (by repeat (first | (with_reducible first | exact HX.out | apply Lx.drewN | apply Lx.drew)))); rintro e wi ⟨rfl, ⟨ni, rfl⟩⟩) | (go_at_call 75; with_reducible refine (escape_0 k2 s g i i HS.out HJ.out HW0.out _ _ ?lx A2.out).mono ?_; (case lx => exact (by repeat (first | (with_reducible first | exact HX.out | apply Lx.drewN | apply Lx.drew)))); rintro e wi ⟨rfl, hb⟩; have HX2 := am_ (Lx.below (by repeat (first | (with_reducible first | exact HX.out | apply Lx.drewN | apply Lx.drew))) hb); have HK2 := am_ (Lk.call (by repeat (first | (with_reducible first | exact HK.out | apply Lk.drewN | apply Lk.drew | apply Lk.set))) hb); have HD2 := am_ (isB_call (by repeat (first | (with_reducible first | exact HD.out | apply isB_drewN | apply isB_drew))) hb); clear hb; clear HX HK HD; have HX := HX2; have HK := HK2; have HD := HD2; clear HX2 HK2 HD2; have hc0 := HX.out.s; have hc1 := HX.out.i; have hz1 := HX.out.fz))
              have HX4 : Aside0 (Lx (wi).drew g s i) := am_ (Lx.drew (by repeat (first | (with_reducible first | exact HX.out | apply Lx.drewN | apply Lx.drew)))); have HK4 : Aside0 (Lk g w (wi).drew) := am_ (Lk.drew (by repeat (first | (with_reducible first | exact HK.out | apply Lk.drewN | apply Lk.drew | apply Lk.set)))); have HD4 : Aside0 (Lib.IsBuilder 100 5 w.heap.size w.heap.size (Lib.byteCells acc) (wi).drew) := am_ (isB_drew (by repeat (first | (with_reducible first | exact HD.out | apply isB_drewN | apply isB_drew)))); refine start_ (n := 14) (S := (fun w' => w'.cell? ⟨g, 0, none⟩ = some (.string s) ∧ w'.cell? ⟨g, 1, none⟩ = some (.int .i64 (i : Int)))) (ds := []) #[false, false, false, false, false, false, false, false, false, false, false, false, false, false] (by kernel_rfl) rfl rfl ⟨HX4.out.s, HX4.out.i⟩ (fun hHeld => ?_)
              refine with_tabW lexer_ident.tab8 lexer_ident.bits8 (fun HT_ HW_ => ?_)
              generalize (wi).drew = w4 at HX4 HK4 HD4 hHeld ⊢
              refine pus_ 0 (some 33) #[true, false, false, false, false, false, false, false, false, false, false, false, false, false] rfl rfl HT_.out ?_
              refine pus_ 1 (some 34) #[true, true, false, false, false, false, false, false, false, false, false, false, false, false] rfl rfl HT_.out ?_
              refine pus_ 2 (some 35) #[true, true, true, false, false, false, false, false, false, false, false, false, false, false] rfl rfl HT_.out ?_
              refine tas_ 3 (some 36) #[true, true, true, true, false, false, false, false, false, false, false, false, false, false] rfl rfl HT_.out HW_.out hHeld ?_
              refine pus_ 4 (some 37) #[true, true, true, true, true, false, false, false, false, false, false, false, false, false] rfl rfl HT_.out ?_
              refine pus_ 5 (some 38) #[true, true, true, true, true, true, false, false, false, false, false, false, false, false] rfl rfl HT_.out ?_
              refine pus_ 6 (some 39) #[true, true, true, true, true, true, true, false, false, false, false, false, false, false] rfl rfl HT_.out ?_
              refine tas_ 7 (some 40) #[true, true, true, true, true, true, true, true, false, false, false, false, false, false] rfl rfl HT_.out HW_.out hHeld ?_
              refine one_ (i := 8) (N := (some 41)) #[true, true, true, true, true, true, true, true, true, false, false, false, false, false] rfl rfl (one_of HT_.out (by kernel_rfl)) (by decide) (fun K hK => ?_)
              refine goes_ Try.func79 (by kernel_rfl) rfl #[.string s, .int .i64 (i : Int)] (by rfl) rfl rfl goa_ ?_
              with_reducible refine (token_Hex.calls k2 s (i : Int) x n _ A3.out).mono ?_
              rintro e w5 ⟨rfl, hb⟩
              refine ⟨_, rfl, ?_⟩
              have HX5 := am_ (HX4.out.below hb); have HK5 := am_ (HK4.out.call hb); have HD5 := am_ (isB_call HD4.out hb); clear hb; refine hK.out _ _ ⟨HX5.out.s, HX5.out.i⟩ (fun hHeld => ?_)
              clear hK K; refine norm_ (a' := ?_) ?_ ?_
              rotate_left
              ·show Act.put _ (some 41) _ = _
               simp only [Act.put, List.setIfInBounds_toArray, List.set_cons_zero, List.set_cons_succ, i64_w, i32_w]; rfl
              refine pus_ 9 (some 32) #[true, true, true, true, true, true, true, true, true, true, false, false, false, false] rfl rfl HT_.out ?_
              refine pus_ 10 (some 42) #[true, true, true, true, true, true, true, true, true, true, true, false, false, false] rfl rfl HT_.out ?_
              refine pus_ 11 (some 43) #[true, true, true, true, true, true, true, true, true, true, true, true, false, false] rfl rfl HT_.out ?_
              refine pus_ 12 (some 5) #[true, true, true, true, true, true, true, true, true, true, true, true, true, false] rfl rfl HT_.out ?_
              refine pus_ 13 (some 6) #[true, true, true, true, true, true, true, true, true, true, true, true, true, true] rfl rfl HT_.out ?_
              refine done_ (done_of HT_.out (by kernel_rfl)) ?_
              clear HX HK HD HX4 HK4 HD4; have HX := HX5; have HK := HK5; have HD := HD5; clear HX5 HK5 HD5; have hc0 := HX.out.s; have hc1 := HX.out.i; have hz1 := HX.out.fz; go_wp2_with (first | (go_at_call 80; refine (writeString_calls w.heap.size w.heap.size (Lib.byteCells acc) x _ (by repeat (first | (with_reducible first | exact HD.out | apply isB_drewN | apply isB_drew))) HLEN.out (Nat.le_of_lt HD.out.lt0)).mono ?_; rintro e w7 ⟨rfl, hd7, hb7⟩; have HX2 := am_ (Lx.lower (by repeat (first | (with_reducible first | exact HX.out | apply Lx.drewN | apply Lx.drew))) hb7 HG.out); have HK2 := am_ (Lk.lower (by repeat (first | (with_reducible first | exact HK.out | apply Lk.drewN | apply Lk.drew | apply Lk.set))) hb7 (Nat.le_refl _)); have HD2 := am_ (builtS hd7); clear hd7 hb7; clear HX HK HD; have HX := HX2; have HK := HK2; have HD := HD2; clear HX2 HK2 HD2; have hc0 := HX.out.s; have hc1 := HX.out.i; have hz1 := HX.out.fz))
              have hc0 := HX.out.s; have hc1 := HX.out.i; have hz1 := HX.out.fz; go_wp2; go_roundg k2
              case measure => omega
              case rel => exact ⟨i + n.toNat, acc ++ x.data.toList, HI2, A4, ⟨Lx.setv (by repeat (first | (with_reducible first | exact HX.out | apply Lx.drewN | apply Lx.drew))) HWN.out⟩, ⟨(by repeat (first | (with_reducible first | exact HK.out | apply Lk.drewN | apply Lk.drew | apply Lk.set)))⟩, ⟨isB_set (by repeat (first | (with_reducible first | exact HD.out | apply isB_drewN | apply isB_drew))) HG.out⟩⟩
            rw [if_neg h3] at hf; cases hf
          rw [if_neg h2] at hf; cases hf
        rw [if_neg h1] at hf; cases hf
      rw [if_pos rfl] at hf; by_cases hlt : i < s.size
      · rw [if_pos hlt] at hf
        by_cases h3 : acc.length ≤ 10000000
        · rw [if_pos h3] at hf
          have A4 := am_ hf; have HLEN := am_ (show (Lib.byteCells acc).length + 1 ≤ 140737488355328 by unfold Lib.byteCells; rw [List.length_map]; omega); have HI2 := am_ (show i + 1 ≤ s.size by omega); have hw2 : wrap64 ((i : Int) + 1) = ((i + 1 : Nat) : Int) := by unfold wrap64; omega
          have HWN := am_ (show (i : Int) + 1 = ((i + 1 : Nat) : Int) by omega); have q0 : (0 ≤ (i : Int)) = True := eq_true (by omega); have q1 : ((i : Int) < (s.size : Int)) = True := eq_true (by omega); have q2 : decide ((i : Int) < (s.size : Int)) = true := dt_ (by omega); have q3 : decide (i < s.size) = true := dt_ hlt; have q4 : (i < s.size) = True := eq_true hlt; have hx : ∀ h : i < s.size, ((s[i].toNat : Nat) : Int) = bt s (i : Nat) := fun h => bt_at s (i : Int) (by simpa using h)
          clear hf h3 hi hs hlt; go_wp2_with (first | (go_at_call 56; with_reducible refine (is_inner0 s g i i HS.out HW0.out _ _ ?lx A1.out).mono ?_; (case lx => exact (by repeat (first | (with_reducible first | exact HX.out | apply Lx.drewN | apply Lx.drew)))); rintro e wi ⟨rfl, ⟨ni, rfl⟩⟩))
          have HX4 : Aside0 (Lx (wr.drewN ni).drew g s i) := am_ (Lx.drew (by repeat (first | (with_reducible first | exact HX.out | apply Lx.drewN | apply Lx.drew)))); have HK4 : Aside0 (Lk g w (wr.drewN ni).drew) := am_ (Lk.drew (by repeat (first | (with_reducible first | exact HK.out | apply Lk.drewN | apply Lk.drew | apply Lk.set)))); have HD4 : Aside0 (Lib.IsBuilder 100 5 w.heap.size w.heap.size (Lib.byteCells acc) (wr.drewN ni).drew) := am_ (isB_drew (by repeat (first | (with_reducible first | exact HD.out | apply isB_drewN | apply isB_drew)))); refine start_ (n := 10) (S := (fun w' => w'.cell? ⟨g, 0, none⟩ = some (.string s) ∧ w'.cell? ⟨g, 1, none⟩ = some (.int .i64 (i : Int)))) (ds := []) #[false, false, false, false, false, false, false, false, false, false] (by kernel_rfl) rfl rfl ⟨HX4.out.s, HX4.out.i⟩ (fun hHeld => ?_)
          refine with_tabW lexer_ident.tab5 lexer_ident.bits5 (fun HT_ HW_ => ?_)
          generalize (wr.drewN ni).drew = w4 at HX4 HK4 HD4 hHeld ⊢
          refine pus_ 0 (some 12) #[true, false, false, false, false, false, false, false, false, false] rfl rfl HT_.out ?_
          refine pus_ 1 (some 13) #[true, true, false, false, false, false, false, false, false, false] rfl rfl HT_.out ?_
          refine pus_ 2 (some 14) #[true, true, true, false, false, false, false, false, false, false] rfl rfl HT_.out ?_
          refine tas_ 3 (some 15) #[true, true, true, true, false, false, false, false, false, false] rfl rfl HT_.out HW_.out hHeld ?_
          refine pus_ 4 (some 16) #[true, true, true, true, true, false, false, false, false, false] rfl rfl HT_.out ?_
          refine pus_ 5 (some 17) #[true, true, true, true, true, true, false, false, false, false] rfl rfl HT_.out ?_
          refine pus_ 6 (some 18) #[true, true, true, true, true, true, true, false, false, false] rfl rfl HT_.out ?_
          refine tas_ 7 (some 19) #[true, true, true, true, true, true, true, true, false, false] rfl rfl HT_.out HW_.out hHeld ?_
          refine pus_ 8 (some 20) #[true, true, true, true, true, true, true, true, true, false] rfl rfl HT_.out ?_
          refine one_ (i := 9) (N := (some 21)) #[true, true, true, true, true, true, true, true, true, true] rfl rfl (one_of HT_.out (by kernel_rfl)) (by decide) (fun K hK => ?_)
          refine goes_ Try.func78 (by kernel_rfl) rfl #[.pointer (some ⟨w.heap.size, 0, none⟩), .int .u8 (bt s (i : Nat))] (by rfl) rfl rfl goa_ ?_
          refine (writeByte_calls w.heap.size w.heap.size (Lib.byteCells acc) (bt s (i : Nat)) _ HD4.out HLEN.out (Nat.le_of_lt HD4.out.lt0)).mono ?_
          rintro e w5 ⟨rfl, hd5, hb5⟩
          refine ⟨_, rfl, ?_⟩
          have HX5 := am_ (HX4.out.lower hb5 HG.out); have HK5 := am_ (HK4.out.lower hb5 (Nat.le_refl _)); have HD5 := am_ (built1 (c := byteAt s i) (byteAt_val s i).symm hd5); clear hd5 hb5; refine hK.out _ _ ⟨HX5.out.s, HX5.out.i⟩ (fun hHeld => ?_)
          clear hK K; refine norm_ (a' := ?_) ?_ ?_
          rotate_left
          ·show Act.put _ (some 21) _ = _
           simp only [Act.put, List.setIfInBounds_toArray, List.set_cons_zero, List.set_cons_succ, i64_w, i32_w]; rfl
          refine done_ (done_of HT_.out (by kernel_rfl)) ?_
          clear HX HK HD HX4 HK4 HD4; have HX := HX5; have HK := HK5; have HD := HD5; clear HX5 HK5 HD5; have hc0 := HX.out.s; have hc1 := HX.out.i; have hz1 := HX.out.fz; go_wp2; go_roundg k2
          case measure => omega
          case rel => exact ⟨i + 1, acc ++ [byteAt s i], HI2, A4, ⟨Lx.setv (by repeat (first | (with_reducible first | exact HX.out | apply Lx.drewN | apply Lx.drew))) (by omega)⟩, ⟨(by repeat (first | (with_reducible first | exact HK.out | apply Lk.drewN | apply Lk.drew | apply Lk.set)))⟩, ⟨isB_set (by repeat (first | (with_reducible first | exact HD.out | apply isB_drewN | apply isB_drew))) HG.out⟩⟩
        rw [if_neg h3] at hf; cases hf
      rw [if_neg hlt] at hf; cases hf
end Go.Proofs.Ytofdhdafabmhmaa.Giv
end
section
namespace Go.Proofs.Ytofdhdafabmhmaa.Giv
open Go.RowKit Go.Proofs.YtofdhdafabmhmaaW.PrintWords Go.Proofs.YtofdhdafabmhmaaW.PrintLast Go.Proofs.YtofdhdafabmhmaaW.PrintMore Go.Proofs.Ytofdhdafabmhmaa.PLr
open Go.Proofs.Ytofdhdafabmhmaa.Opn Go.BigFrame
theorem isB_put {T e : TypeId} {B b g o : Nat} {v : Value} {l : List Value} {w : World} (hg : g < B) (h : Lib.IsBuilder T e B b l w) : Lib.IsBuilder T e B b l (w.setCell ⟨g, o, none⟩ v) := isB_set h hg
/-- What a quoted text means, and where it ends (an escape that is none, a line's end, a byte 0: none). -/
def quotF : Nat → ByteArray → Nat → List UInt8 → Int → Option (List UInt8 × Nat)
  | 0, _, _, _, _ => none
  | k + 1, s, i, acc, e => if i < s.size then (if bt s (i : Nat) = e then some (acc, i + 1) else ((token_feed.f (bt s (i : Nat))).bind fun f => if f = true then none else if bt s (i : Nat) = 0 then none else if bt s (i : Nat) = 92 then
      ((escF k s i).bind fun b => if b = true then ((token_Hex.f k s (i : Int)).bind fun t => if 0 ≤ t.2 then (if i + t.2.toNat ≤ s.size then (if acc.length + t.1.size ≤ 10000000 then quotF k s (i + t.2.toNat) (acc ++ t.1.data.toList) e else none) else none) else none) else none)
      else if acc.length ≤ 10000000 then quotF k s (i + 1) (acc ++ [byteAt s i]) e else none)) else none
theorem quotF.mono : ∀ k s i acc e, LeO (quotF k s i acc e) (quotF (k + 1) s i acc e)
  | 0, s, i, acc, e => LeO.none _
  | k + 1, s, i, acc, e => by
    rw [quotF, quotF]; repeat' first
      | exact quotF.mono k _ _ _ _
      | (with_reducible exact escF.mono _ _ _)
      | (with_reducible exact token_Hex.mono _ _ _)
      | (with_reducible first | exact LeO.refl _ | exact LeO.none _ | refine LeO.ite ?_ ?_ | refine LeO.bind ?_ (fun _ => ?_))
def lexer_quoted.T13 : Bool × List (List Nat × List Nat) := (true, [([], []), ([0], [0]), ([1], [1]), ([2], [2]), ([], []), ([4], [4]), ([5], [5]), ([6], [6]), ([3, 7], [3, 7]), ([8], [8]), ([9], [9]), ([9], [9]), ([10, 8, 0, 1, 2, 3, 4, 5, 6, 7, 8, 9, 10], [10]), ([11, 12, 0, 1, 2, 3, 4, 5, 6, 7, 8, 9, 10, 11, 12], [11])])
def lexer_quoted.B13 : List Nat := [0, 1, 3, 7, 0, 16, 48, 112, 255, 511, 1023, 1023, 2047, 8191]
theorem lexer_quoted.tab13 : rtab .any (opsOf Try.f61 13) = lexer_quoted.T13 := by kernel_rfl
theorem lexer_quoted.bits13 : waitsOk lexer_quoted.T13.2 lexer_quoted.B13 = true := by kernel_rfl
set_option maxHeartbeats 8000000 in
set_option maxRecDepth 100000 in
theorem quoted_calls (k : Nat) (s : ByteArray) (g i j : Nat) (l : List UInt8) (hs : s.size ≤ 140737488351232) (hi : i < s.size) (w : World) (h : Lx w g s i) (hf : quotF k s (i + 1) [] (bt s (i : Nat)) = some (l, j)) :
    Calls Try.prog 61 #[.pointer (some ⟨g, 0, none⟩)] w fun e w' => e = .returned (.string ⟨l.toArray⟩) ∧ Lx w' g s j ∧ Lk g w w' := by
  have hu := Try.underlying77; have HS := am_ hs; have HF := am_ hf; have H1 := am_ h; have HI := am_ (show i + 1 ≤ s.size by omega); have hg := (Array.getElem?_eq_some_iff.1 h).1; have HG := am_ hg; have hlt := hi; have hc0 := h.s; have hc1 := h.i; have hw2 : wrap64 ((i : Int) + 1) = ((i + 1 : Nat) : Int) := by unfold wrap64; omega
  have q0 : (0 ≤ (i : Int)) = True := eq_true (by omega); have q1 : ((i : Int) < (s.size : Int)) = True := eq_true (by omega); have q2 : decide ((i : Int) < (s.size : Int)) = true := dt_ (by omega); have q3 : decide (i < s.size) = true := dt_ hlt; have q4 : (i < s.size) = True := eq_true hlt; have hx : ∀ h : i < s.size, ((s[i].toNat : Nat) : Int) = bt s (i : Nat) := fun h => bt_at s (i : Int) (by simpa using h)
  clear hf h hs hi hg hlt; go_enter Try.func61, Try.ntmps61
  go_wp2; refine wp_region_quiet_lit (by kernel_rfl) (by kernel_rfl) ?_
  repeat (go_big_quiet_step (fail))
  refine wpQuiet_nil ?_
  intro _ hw'; obtain ⟨nq, hw''⟩ := hw'; subst hw''; go_wp2_with (first | ((with_reducible refine gate_dst (N := 5) rfl ?_); (try (refine gate_guard (by rfl) ?_; dsimp only)); refine box_event ?hg (N := 5) ?hd (cs := #[.pointer none, .slice none 0 0]) (t := 100) ?hr ?_; (case hd => rfl); (case hg => rfl); (case hr => first | (go_simp; done) | (go_simp; rfl)); intro b5 hg w5 hbox hb; have hg2 : b5 = w.heap.size := hg; subst hg2; have HFR : Aside0 (Lib.IsBuilder 100 5 w.heap.size w.heap.size [] w5) := ⟨Or.inl ⟨Nat.le_refl _, .slice none 0 0, hbox, World.ownsRow_nil _ _ _ _, by simp [Value.ownBlock]⟩⟩; have HXA : Aside0 (Lx w5 g s i) := ⟨Lx.below (W := w.drewN nq) H1.out hb⟩; have HKA : Aside0 (Lk g w w5) := ⟨Lk.call ((Lk.refl g w).drewN nq) hb⟩; clear hg hbox hb hc0 hc1 H1; have hc0 := HXA.out.s; have hc1 := HXA.out.i; have hz1 := HXA.out.fz))
  clear hx; generalize bt s (i : Nat) = en at HF ⊢
  go_loopg [] k (fun kq wr => ∃ (i2 : Nat) (acc : List UInt8), Aside0 (i2 ≤ s.size) ∧ Aside0 (quotF kq s i2 acc en = some (l, j)) ∧ Aside0 (Lx wr g s i2) ∧ Aside0 (Lk g w wr) ∧ Aside0 (Lib.IsBuilder 100 5 w.heap.size w.heap.size (Lib.byteCells acc) wr))
  case atStart => exact ⟨i + 1, [], HI, HF, ⟨Lx.setv HXA.out (by omega)⟩, ⟨Lk.set HKA.out _ _⟩, ⟨isB_set HFR.out HG.out⟩⟩
  case round =>
    clear HF HI HFR HXA HKA hc0 hc1 hz1 q0 q1 q2 q3 q4 hw2; obtain ⟨i, acc, HI, HF, HX, HK, HD⟩ := hrel
    cases gk with
    | zero => exact absurd HF.out (by simp [quotF])
    | succ k2 =>
      have hf := HF.out; have hi := HI.out; have hs := HS.out; have HJ := am_ (show i ≤ 140737488351300 by omega); have HW0 := am_ (show IntKind.i64.wrap (i : Int) = (i : Int) from wrapE i 0 (by omega)); have hc0 := HX.out.s; have hc1 := HX.out.i; have hz1 := HX.out.fz; clear HF; rw [quotF] at hf; by_cases hlt : i < s.size
      · rw [if_pos hlt] at hf
        have hw2 : wrap64 ((i : Int) + 1) = ((i + 1 : Nat) : Int) := by unfold wrap64; omega
        have HI2 := am_ (show i + 1 ≤ s.size by omega); have HWN := am_ (show (i : Int) + 1 = ((i + 1 : Nat) : Int) by omega); have q0 : (0 ≤ (i : Int)) = True := eq_true (by omega); have q1 : ((i : Int) < (s.size : Int)) = True := eq_true (by omega); have q2 : decide ((i : Int) < (s.size : Int)) = true := dt_ (by omega); have q3 : decide (i < s.size) = true := dt_ hlt; have q4 : (i < s.size) = True := eq_true hlt; have hx : ∀ h : i < s.size, ((s[i].toNat : Nat) : Int) = bt s (i : Nat) := fun h => bt_at s (i : Int) (by simpa using h)
        have q7 : decide ((i : Int) ≥ (s.size : Int)) = false := df_ (by omega); have q8 : decide ((s.size : Int) ≤ (i : Int)) = false := df_ (by omega); have q9 : decide (s.size ≤ i) = false := df_ (by omega); by_cases hen : bt s (i : Nat) = en
        · rw [if_pos hen] at hf
          obtain ⟨rfl, rfl⟩ := Prod.mk.inj (si_ hf); have p1 : (bt s (i : Nat) != en) = false := bne_eq_false_iff_eq.mpr hen; have p2 : (bt s (i : Nat) == en) = true := beq_iff_eq.mpr hen; clear hf hi hs hlt hen; go_wp2; refine wp_region_quiet_lit (by kernel_rfl) (by kernel_rfl) ?_
          repeat (go_big_quiet_step (fail))
          refine wpQuiet_nil ?_
          intro _ hw'; obtain ⟨nq, hw''⟩ := hw'; subst hw''; go_wp2; refine wp_region_quiet_lit (by kernel_rfl) (by kernel_rfl) ?_
          repeat (go_big_quiet_step (fail))
          refine wpQuiet_nil ?_
          intro _ hw'; obtain ⟨nq, hw''⟩ := hw'; subst hw''; go_wp2_with (first | (go_at_call 81; refine (Try.Builder_String_any w.heap.size w.heap.size acc _ ?bd ?lt).mono ?_; (case bd => exact (by repeat (first | (with_reducible first | exact HD.out | apply isB_drewN | apply isB_drew | apply isB_put HG.out)))); (case lt => first | exact Nat.le_of_lt HD.out.lt0 | (refine Nat.le_of_lt ?_; have h_ := HD.out.lt0; simpa [World.setCell] using h_)); rintro e w7 ⟨rfl, hb7⟩; have HX7 := am_ (Lx.lower (i := i + 1) (Lx.setv (by repeat (first | (with_reducible first | exact HX.out | apply Lx.drewN | apply Lx.drew))) (by first | with_reducible rfl | with_reducible exact hw2 | omega)) hb7 HG.out); have HK7 := am_ (Lk.lower (by repeat (first | (with_reducible first | exact HK.out | apply Lk.drewN | apply Lk.drew | apply Lk.set))) hb7 (Nat.le_refl _)); clear hb7))
          go_ret
          exact ⟨rfl, HX7.out, HK7.out⟩
        rw [if_neg hen] at hf; have p1 : (bt s (i : Nat) != en) = true := bne_iff_ne.mpr hen; have p2 : (bt s (i : Nat) == en) = false := beq_eq_false_iff_ne.mpr hen; obtain ⟨f, hff, hf⟩ := bs_ hf; have A1 := am_ hff; clear hff; cases f
        · rw [if_neg (by decide)] at hf
          by_cases h0 : bt s (i : Nat) = 0
          · rw [if_pos h0] at hf
            cases hf
          rw [if_neg h0] at hf; have p3 : (bt s (i : Nat) == 0) = false := beq_eq_false_iff_ne.mpr h0; by_cases h9 : bt s (i : Nat) = 92
          · rw [if_pos h9] at hf
            have p4 : (bt s (i : Nat) != 92) = false := bne_eq_false_iff_eq.mpr h9; obtain ⟨e, he, hf⟩ := bs_ hf; have A2 := am_ he; clear he; cases e
            · rw [if_neg (by decide)] at hf
              cases hf
            rw [if_pos rfl] at hf; obtain ⟨⟨x, n⟩, hxx, hf⟩ := bs_ hf; have A3 := am_ hxx; clear hxx; try dsimp only at hf
            by_cases h1 : 0 ≤ n
            · rw [if_pos h1] at hf
              by_cases h2 : i + n.toNat ≤ s.size
              · rw [if_pos h2] at hf
                by_cases h3 : acc.length + x.size ≤ 10000000
                · rw [if_pos h3] at hf
                  have A4 := am_ hf; have HI3 := am_ h2; have HLEN := am_ (show (Lib.byteCells acc).length + x.size ≤ 140737488355328 by unfold Lib.byteCells; rw [List.length_map]; omega); have hwn : wrap64 ((i : Int) + n) = ((i + n.toNat : Nat) : Int) := by unfold wrap64; omega
                  have HWN2 := am_ hwn; clear hf h1 h2 h3 hwn hi hs hlt hen h0 h9; go_wp2; refine wp_region_quiet_lit (by kernel_rfl) (by kernel_rfl) ?_
                  repeat (go_big_quiet_step (fail))
                  refine wpQuiet_nil ?_
                  intro _ hw'; obtain ⟨nq, hw''⟩ := hw'; subst hw''; go_wp2; refine wp_region_quiet_lit (by kernel_rfl) (by kernel_rfl) ?_
                  repeat (go_big_quiet_step (fail))
                  refine wpQuiet_nil ?_
                  intro _ hw'; obtain ⟨nq, hw''⟩ := hw'; subst hw''; go_wp2_with (first | (go_at_call 71; with_reducible refine (token_feed.calls _ _ _ A1.out).mono ?_; rintro e wf ⟨rfl, ⟨nf, rfl⟩⟩) | (go_at_call 75; with_reducible refine (escape_0 k2 s g i i HS.out HJ.out HW0.out _ _ ?lx A2.out).mono ?_; (case lx => exact (by repeat (first | (with_reducible first | exact HX.out | apply Lx.drewN | apply Lx.drew)))); rintro e wi ⟨rfl, hb⟩; have HX2 := am_ (Lx.below (by repeat (first | (with_reducible first | exact HX.out | apply Lx.drewN | apply Lx.drew))) hb); have HK2 := am_ (Lk.call (by repeat (first | (with_reducible first | exact HK.out | apply Lk.drewN | apply Lk.drew | apply Lk.set))) hb); have HD2 := am_ (isB_call (by repeat (first | (with_reducible first | exact HD.out | apply isB_drewN | apply isB_drew))) hb); clear hb; clear HX HK HD; have HX := HX2; have HK := HK2; have HD := HD2; clear HX2 HK2 HD2; have hc0 := HX.out.s; have hc1 := HX.out.i; have hz1 := HX.out.fz))
                  have HX4 : Aside0 (Lx (wi).drew g s i) := am_ (Lx.drew (by repeat (first | (with_reducible first | exact HX.out | apply Lx.drewN | apply Lx.drew)))); have HK4 : Aside0 (Lk g w (wi).drew) := am_ (Lk.drew (by repeat (first | (with_reducible first | exact HK.out | apply Lk.drewN | apply Lk.drew | apply Lk.set)))); have HD4 : Aside0 (Lib.IsBuilder 100 5 w.heap.size w.heap.size (Lib.byteCells acc) (wi).drew) := am_ (isB_drew (by repeat (first | (with_reducible first | exact HD.out | apply isB_drewN | apply isB_drew)))); refine start_ (n := 14) (S := (fun w' => w'.cell? ⟨g, 0, none⟩ = some (.string s) ∧ w'.cell? ⟨g, 1, none⟩ = some (.int .i64 (i : Int)))) (ds := []) #[false, false, false, false, false, false, false, false, false, false, false, false, false, false] (by kernel_rfl) rfl rfl ⟨HX4.out.s, HX4.out.i⟩ (fun hHeld => ?_)
                  refine with_tabW lexer_quoted.tab13 lexer_quoted.bits13 (fun HT_ HW_ => ?_)
                  generalize (wi).drew = w4 at HX4 HK4 HD4 hHeld ⊢
                  refine pus_ 0 (some 90) #[true, false, false, false, false, false, false, false, false, false, false, false, false, false] rfl rfl HT_.out ?_
                  refine pus_ 1 (some 91) #[true, true, false, false, false, false, false, false, false, false, false, false, false, false] rfl rfl HT_.out ?_
                  refine pus_ 2 (some 92) #[true, true, true, false, false, false, false, false, false, false, false, false, false, false] rfl rfl HT_.out ?_
                  refine tas_ 3 (some 93) #[true, true, true, true, false, false, false, false, false, false, false, false, false, false] rfl rfl HT_.out HW_.out hHeld ?_
                  refine pus_ 4 (some 94) #[true, true, true, true, true, false, false, false, false, false, false, false, false, false] rfl rfl HT_.out ?_
                  refine pus_ 5 (some 95) #[true, true, true, true, true, true, false, false, false, false, false, false, false, false] rfl rfl HT_.out ?_
                  refine pus_ 6 (some 96) #[true, true, true, true, true, true, true, false, false, false, false, false, false, false] rfl rfl HT_.out ?_
                  refine tas_ 7 (some 97) #[true, true, true, true, true, true, true, true, false, false, false, false, false, false] rfl rfl HT_.out HW_.out hHeld ?_
                  refine one_ (i := 8) (N := (some 98)) #[true, true, true, true, true, true, true, true, true, false, false, false, false, false] rfl rfl (one_of HT_.out (by kernel_rfl)) (by decide) (fun K hK => ?_)
                  refine goes_ Try.func79 (by kernel_rfl) rfl #[.string s, .int .i64 (i : Int)] (by rfl) rfl rfl goa_ ?_
                  with_reducible refine (token_Hex.calls k2 s (i : Int) x n _ A3.out).mono ?_
                  rintro e w5 ⟨rfl, hb⟩
                  refine ⟨_, rfl, ?_⟩
                  have HX5 := am_ (HX4.out.below hb); have HK5 := am_ (HK4.out.call hb); have HD5 := am_ (isB_call HD4.out hb); clear hb; refine hK.out _ _ ⟨HX5.out.s, HX5.out.i⟩ (fun hHeld => ?_)
                  clear hK K; refine norm_ (a' := ?_) ?_ ?_
                  rotate_left
                  ·show Act.put _ (some 98) _ = _
                   simp only [Act.put, List.setIfInBounds_toArray, List.set_cons_zero, List.set_cons_succ, i64_w, i32_w]; rfl
                  refine pus_ 9 (some 89) #[true, true, true, true, true, true, true, true, true, true, false, false, false, false] rfl rfl HT_.out ?_
                  refine pus_ 10 (some 99) #[true, true, true, true, true, true, true, true, true, true, true, false, false, false] rfl rfl HT_.out ?_
                  refine pus_ 11 (some 100) #[true, true, true, true, true, true, true, true, true, true, true, true, false, false] rfl rfl HT_.out ?_
                  refine pus_ 12 (some 7) #[true, true, true, true, true, true, true, true, true, true, true, true, true, false] rfl rfl HT_.out ?_
                  refine pus_ 13 (some 8) #[true, true, true, true, true, true, true, true, true, true, true, true, true, true] rfl rfl HT_.out ?_
                  refine done_ (done_of HT_.out (by kernel_rfl)) ?_
                  clear HX HK HD HX4 HK4 HD4; have HX := HX5; have HK := HK5; have HD := HD5; clear HX5 HK5 HD5; have hc0 := HX.out.s; have hc1 := HX.out.i; have hz1 := HX.out.fz; go_wp2_with (first | (go_at_call 80; refine (writeString_calls w.heap.size w.heap.size (Lib.byteCells acc) x _ (by repeat (first | (with_reducible first | exact HD.out | apply isB_drewN | apply isB_drew))) HLEN.out (Nat.le_of_lt HD.out.lt0)).mono ?_; rintro e w7 ⟨rfl, hd7, hb7⟩; have HX2 := am_ (Lx.lower (by repeat (first | (with_reducible first | exact HX.out | apply Lx.drewN | apply Lx.drew))) hb7 HG.out); have HK2 := am_ (Lk.lower (by repeat (first | (with_reducible first | exact HK.out | apply Lk.drewN | apply Lk.drew | apply Lk.set))) hb7 (Nat.le_refl _)); have HD2 := am_ (builtS hd7); clear hd7 hb7; clear HX HK HD; have HX := HX2; have HK := HK2; have HD := HD2; clear HX2 HK2 HD2; have hc0 := HX.out.s; have hc1 := HX.out.i; have hz1 := HX.out.fz))
                  have hc0 := HX.out.s; have hc1 := HX.out.i; have hz1 := HX.out.fz; go_wp2; go_roundg k2
                  case measure => omega
                  case rel => exact ⟨i + n.toNat, acc ++ x.data.toList, HI3, A4, ⟨Lx.setv (by repeat (first | (with_reducible first | exact HX.out | apply Lx.drewN | apply Lx.drew))) HWN2.out⟩, ⟨(by repeat (first | (with_reducible first | exact HK.out | apply Lk.drewN | apply Lk.drew | apply Lk.set)))⟩, ⟨isB_set (by repeat (first | (with_reducible first | exact HD.out | apply isB_drewN | apply isB_drew))) HG.out⟩⟩
                rw [if_neg h3] at hf; cases hf
              rw [if_neg h2] at hf; cases hf
            rw [if_neg h1] at hf; cases hf
          rw [if_neg h9] at hf; have p4 : (bt s (i : Nat) != 92) = true := bne_iff_ne.mpr h9; by_cases h3 : acc.length ≤ 10000000
          · rw [if_pos h3] at hf
            have A4 := am_ hf; have HLEN := am_ (show (Lib.byteCells acc).length + 1 ≤ 140737488355328 by unfold Lib.byteCells; rw [List.length_map]; omega); clear hf h3 hi hs hlt hen h0 h9; go_wp2; refine wp_region_quiet_lit (by kernel_rfl) (by kernel_rfl) ?_
            repeat (go_big_quiet_step (fail))
            refine wpQuiet_nil ?_
            intro _ hw'; obtain ⟨nq, hw''⟩ := hw'; subst hw''; go_wp2; refine wp_region_quiet_lit (by kernel_rfl) (by kernel_rfl) ?_
            repeat (go_big_quiet_step (fail))
            refine wpQuiet_nil ?_
            intro _ hw'; obtain ⟨nq, hw''⟩ := hw'; subst hw''; go_wp2_with (first | (go_at_call 71; with_reducible refine (token_feed.calls _ _ _ A1.out).mono ?_; rintro e wf ⟨rfl, ⟨nf, rfl⟩⟩) | (go_at_call 78; refine (writeByte_calls w.heap.size w.heap.size (Lib.byteCells acc) (bt s (i : Nat)) _ ?bd HLEN.out ?lt).mono ?_; (case bd => exact (by repeat (first | (with_reducible first | exact HD.out | apply isB_drewN | apply isB_drew)))); (case lt => exact Nat.le_of_lt HD.out.lt0); rintro e w5 ⟨rfl, hd5, hb5⟩; have HX2 := am_ (Lx.lower (by repeat (first | (with_reducible first | exact HX.out | apply Lx.drewN | apply Lx.drew))) hb5 HG.out); have HK2 := am_ (Lk.lower (by repeat (first | (with_reducible first | exact HK.out | apply Lk.drewN | apply Lk.drew | apply Lk.set))) hb5 (Nat.le_refl _)); have HD2 := am_ (built1 (c := byteAt s i) (byteAt_val s i).symm hd5); clear hd5 hb5; clear HX HK HD; have HX := HX2; have HK := HK2; have HD := HD2; clear HX2 HK2 HD2; have hc0 := HX.out.s; have hc1 := HX.out.i; have hz1 := HX.out.fz))
            have hc0 := HX.out.s; have hc1 := HX.out.i; have hz1 := HX.out.fz; go_wp2; go_roundg k2
            case measure => omega
            case rel => exact ⟨i + 1, acc ++ [byteAt s i], HI2, A4, ⟨Lx.setv (by repeat (first | (with_reducible first | exact HX.out | apply Lx.drewN | apply Lx.drew))) (by omega)⟩, ⟨(by repeat (first | (with_reducible first | exact HK.out | apply Lk.drewN | apply Lk.drew | apply Lk.set)))⟩, ⟨isB_set (by repeat (first | (with_reducible first | exact HD.out | apply isB_drewN | apply isB_drew))) HG.out⟩⟩
          rw [if_neg h3] at hf; cases hf
        rw [if_pos rfl] at hf; cases hf
      rw [if_neg hlt] at hf; cases hf
end Go.Proofs.Ytofdhdafabmhmaa.Giv
end
section
namespace Go.Proofs.Ytofdhdafabmhmaa.Giv
open Go.RowKit Go.Proofs.YtofdhdafabmhmaaW.PrintWords Go.Proofs.YtofdhdafabmhmaaW.PrintLast Go.Proofs.YtofdhdafabmhmaaW.PrintMore Go.Proofs.Ytofdhdafabmhmaa.PLr
open Go.Proofs.Ytofdhdafabmhmaa.Opn Go.BigFrame
/-- A word's block. -/
def Tk (W : World) (b : Nat) (k a : Int) (t n : ByteArray) : Prop := W.heap[b]? = some (.cells #[.int .i64 k, .int .i64 a, .string t, .string n] 43 (0, 0))
section
variable {W W' : World} {b g B : Nat} {k a : Int} {t n : ByteArray}
theorem Tk.c0 (h : Tk W b k a t n) : W.cell? ⟨b, 0, none⟩ = some (.int .i64 k) := (blk_cell h 0).trans rfl
theorem Tk.c1 (h : Tk W b k a t n) : W.cell? ⟨b, 1, none⟩ = some (.int .i64 a) := (blk_cell h 1).trans rfl
theorem Tk.c2 (h : Tk W b k a t n) : W.cell? ⟨b, 2, none⟩ = some (.string t) := (blk_cell h 2).trans rfl
theorem Tk.c3 (h : Tk W b k a t n) : W.cell? ⟨b, 3, none⟩ = some (.string n) := (blk_cell h 3).trans rfl
theorem Tk.fz (h : Tk W b k a t n) (i : Nat) : W.frozen? ⟨b, i, none⟩ = false := blk_frozen h i
theorem Tk.lt (h : Tk W b k a t n) : b < W.heap.size := (Array.getElem?_eq_some_iff.1 h).1
theorem Tk.drewN (h : Tk W b k a t n) (m : Nat) : Tk (W.drewN m) b k a t n := h
theorem Tk.drew (h : Tk W b k a t n) : Tk W.drew b k a t n := h
theorem Tk.call (h : Tk W b k a t n) (hb : Below W.heap.size W W') : Tk W' b k a t n := blk_below h hb
theorem Tk.lk (h : Tk W b k a t n) (hk : Lk g W W') (hg : b ≠ g) : Tk W' b k a t n := hk.at h hg
theorem Tk.far (h : Tk W b k a t n) (hg : b ≠ g) (o : Nat) (v : Value) : Tk (W.setCell ⟨g, o, none⟩ v) b k a t n := blk_far h (show b ≠ g from hg) _
theorem Tk.set0 (h : Tk W b k a t n) (v : Int) : Tk (W.setCell ⟨b, 0, none⟩ (.int .i64 v)) b v a t n := blk_put h 0 _ rfl
theorem Tk.set1 (h : Tk W b k a t n) (v : Int) : Tk (W.setCell ⟨b, 1, none⟩ (.int .i64 v)) b k v t n := blk_put h 1 _ rfl
theorem Tk.set2 (h : Tk W b k a t n) (v : ByteArray) : Tk (W.setCell ⟨b, 2, none⟩ (.string v)) b k a v n := blk_put h 2 _ rfl
theorem Tk.set3 (h : Tk W b k a t n) (v : ByteArray) : Tk (W.setCell ⟨b, 3, none⟩ (.string v)) b k a t v := blk_put h 3 _ rfl
theorem Lx.far {s : ByteArray} {i : Nat} (h : Lx W g s i) (hb : g ≠ b) (o : Nat) (v : Value) : Lx (W.setCell ⟨b, o, none⟩ v) g s i := blk_far h (show g ≠ b from hb) _
theorem tk_far (hg : b ≠ g) {o : Nat} {v : Value} (h : Tk W b k a t n) : Tk (W.setCell ⟨g, o, none⟩ v) b k a t n := h.far hg o v
theorem lx_far {s : ByteArray} {i : Nat} (hb : g ≠ b) {o : Nat} {v : Value} (h : Lx W g s i) : Lx (W.setCell ⟨b, o, none⟩ v) g s i := h.far hb o v
theorem Lk.setN {w : World} (h : Lk g w W) (hb : w.heap.size ≤ b) (o : Nat) (v : Value) : Lk g w (W.setCell ⟨b, o, none⟩ v) :=
  ⟨h.os, h.tape, h.output, by simpa [World.setCell] using h.size, fun j hj hg => (Below.heap_setCell W _ v j (show j ≠ b by omega)).trans (h.heap j hj hg)⟩
theorem lk_setN {w : World} (hb : w.heap.size ≤ b) {o : Nat} {v : Value} (h : Lk g w W) : Lk g w (W.setCell ⟨b, o, none⟩ v) := h.setN hb o v
end
/-- The next word: its kind, its meaning, its number, and where it ends (a string, what is wrong: none). -/
def wordF (k : Nat) (s : ByteArray) (i : Nat) : Option (Int × ByteArray × ByteArray × Nat) := if i < s.size then ((number_Scan.f (s.extract i s.size)).bind fun n =>
    if n > 0 then (if i + n.toNat ≤ s.size then ((isF token_lexer_word_1.f s (i + n.toNat)).bind fun p => if p = true then some (4, ⟨#[]⟩, s.extract i (i + n.toNat), i + n.toNat + 1)
      else ((begF k s (i + n.toNat)).bind fun b => if b = true then ((identF k s (i + n.toNat) []).bind fun t => if t.1.length ≤ 64 ∧ t.2 ≤ s.size then some (5, ⟨t.1.toArray⟩, s.extract i (i + n.toNat), t.2) else none) else some (3, ⟨#[]⟩, s.extract i (i + n.toNat), i + n.toNat))) else none)
    else ((begF k s i).bind fun b => if b = true then ((identF k s i []).bind fun t => if t.1.length ≤ 64 ∧ t.2 ≤ s.size then ((isF token_lexer_word_2.f s t.2).bind fun p => if p = true then some (2, ⟨t.1.toArray⟩, ⟨#[]⟩, t.2 + 1) else some (1, ⟨t.1.toArray⟩, ⟨#[]⟩, t.2)) else none)
      else (if bt s (i : Nat) = 34 ∨ bt s (i : Nat) = 39 then ((quotF k s (i + 1) [] (bt s (i : Nat))).bind fun t => if t.1.length ≤ 8192 ∧ t.2 ≤ s.size then some (6, ⟨t.1.toArray⟩, ⟨#[]⟩, t.2) else none) else ((strings_IndexByte.f (⟨#[44, 47, 58, 59, 123, 125, 91, 93, 40, 41]⟩ : ByteArray) (bt s (i : Nat))).bind fun q => if q ≥ 0 then some (7, s.extract i (i + 1), ⟨#[]⟩, i + 1) else none)))) else none
theorem wordF.mono : ∀ s i k, LeO (wordF k s i) (wordF (k + 1) s i) := by
  intro s i k; unfold wordF; repeat' first
      | (with_reducible exact begF.mono _ _ _)
      | (with_reducible exact identF.mono _ _ _ _)
      | (with_reducible exact quotF.mono _ _ _ _ _)
      | (with_reducible first | exact LeO.refl _ | exact LeO.none _ | refine LeO.ite ?_ ?_ | refine LeO.bind ?_ (fun _ => ?_))
def lexer_word.T4 : Bool × List (List Nat × List Nat) := (true, [([], []), ([0], [0]), ([1], [1]), ([2], [2]), ([], []), ([4], [4]), ([5], [5]), ([6], [6]), ([3, 7], [3, 7]), ([8], [8]), ([9, 9, 0, 1, 2, 3, 4, 5, 6, 7, 8, 9], [9])])
def lexer_word.B4 : List Nat := [0, 1, 3, 7, 0, 16, 48, 112, 255, 511, 1023]
theorem lexer_word.tab4 : rtab .any (opsOf Try.f41 4) = lexer_word.T4 := by kernel_rfl
theorem lexer_word.bits4 : waitsOk lexer_word.T4.2 lexer_word.B4 = true := by kernel_rfl
set_option maxHeartbeats 16000000 in
set_option maxRecDepth 100000 in
theorem word_calls (k : Nat) (s : ByteArray) (g i j : Nat) (kd : Int) (tx nm : ByteArray) (hs : s.size ≤ 140737488351232) (w : World) (h : Lx w g s i) (hf : wordF k s i = some (kd, tx, nm, j)) :
    Calls Try.prog 41 #[.pointer (some ⟨g, 0, none⟩)] w fun e w' => e = .returned (.agg #[.int .i64 kd, .int .i64 (i : Int), .string tx, .string nm]) ∧ Lx w' g s j ∧ Lk g w w' := by
  have hu := Try.underlying77; have hut := Try.underlying9; have huT := Try.underlying43; have HS := am_ hs; have HX := am_ h; have HG := am_ (Array.getElem?_eq_some_iff.1 h).1; clear h; unfold wordF at hf; by_cases hlt : i < s.size
  · rw [if_pos hlt] at hf
    obtain ⟨n, hn, hf⟩ := bs_ hf; have A1 := am_ hn; clear hn; have q5 : ((i : Int) ≤ (s.size : Int)) = True := eq_true (by omega); have q0 : (0 ≤ (i : Int)) = True := eq_true (by omega); have q1 : ((i : Int) < (s.size : Int)) = True := eq_true (by omega); have q2 : decide ((i : Int) < (s.size : Int)) = true := dt_ (by omega); have q3 : decide (i < s.size) = true := dt_ hlt; have q4 : (i < s.size) = True := eq_true hlt; have hx : ∀ h : i < s.size, ((s[i].toNat : Nat) : Int) = bt s (i : Nat) := fun h => bt_at s (i : Int) (by simpa using h)
    have HLT := am_ hlt; have HWI := am_ (show IntKind.i64.wrap (i : Int) = (i : Int) from wrapE i 0 (by omega)); have HII := am_ (show i ≤ s.size by omega); by_cases h1 : n > 0
    · rw [if_pos h1] at hf
      have p1 : decide (n > 0) = true := dt_ h1; have p2 : decide (0 < n) = true := dt_ h1; by_cases h2 : i + n.toNat ≤ s.size
      · rw [if_pos h2] at hf
        obtain ⟨m, hm⟩ : ∃ m, i + n.toNat = m := ⟨_, rfl⟩
        have hwn : IntKind.i64.wrap ((i : Int) + n) = (m : Int) := by rw [i64_w]; unfold wrap64; omega
        have hwn2 : wrap64 ((i : Int) + n) = (m : Int) := by unfold wrap64; omega
        have q6 : ((i : Int) ≤ (m : Int)) = True := eq_true (by omega); have q7 : ((m : Int) ≤ (s.size : Int)) = True := eq_true (by omega); have q8 : (i ≤ m) = True := eq_true (by omega); have q9 : (m ≤ s.size) = True := eq_true (by omega); have HM := am_ (show m ≤ s.size by omega); rw [hm] at hf; clear hlt hs h1 h2 hm; go_enter Try.func41, Try.ntmps41
        go_wp2_with (first | ((with_reducible refine gate_dst (N := 2) rfl ?_); (try (refine gate_guard (by rfl) ?_; dsimp only)); refine box_event ?hg (N := 2) ?hd (cs := #[.int .i64 0, .int .i64 0, .string (⟨#[]⟩ : ByteArray), .string (⟨#[]⟩ : ByteArray)]) (t := 43) ?hr ?_; (case hd => rfl); (case hg => rfl); (case hr => first | (go_simp; done) | (go_simp; rfl)); intro b2 hg w2 hbox hb; have HG2 := am_ hg; have K2 := am_ (show Tk w2 b2 0 0 ⟨#[]⟩ ⟨#[]⟩ from hbox); have HX2 := am_ (Lx.below HX.out hb); have HK2 := am_ (Lk.of_below (g := g) hb); clear hg hbox hb HX; have HX := HX2; have HK := HK2; clear HX2 HK2; have hc0 := HX.out.s; have hc1 := HX.out.i; have hz1 := HX.out.fz) | ((with_reducible refine gate_dst (N := 3) rfl ?_); (try (refine gate_guard (by rfl) ?_; dsimp only)); refine box_event ?hg (N := 3) ?hd (cs := #[.int .i64 0, .int .i64 0, .string (⟨#[]⟩ : ByteArray), .string (⟨#[]⟩ : ByteArray)]) (t := 43) ?hr ?_; (case hd => rfl); (case hg => rfl); (case hr => first | (go_simp; done) | (go_simp; rfl)); intro b3 hg w3 hbox hb; have HG3 := am_ hg; have K2L := am_ (Tk.lt K2.out); have K3 := am_ (show Tk w3 b3 0 0 ⟨#[]⟩ ⟨#[]⟩ from hbox); have HX2 := am_ (Lx.below HX.out hb); have HK2 := am_ (Lk.call HK.out hb); have K22 := am_ (Tk.call K2.out hb); clear hg hbox hb HX HK K2; have HX := HX2; have HK := HK2; have K2 := K22; clear HX2 HK2 K22; have ht0 := K3.out.c0; have ht1 := K3.out.c1; have ht2 := K3.out.c2; have ht3 := K3.out.c3; have hf0 := K3.out.fz 0; have hf1 := K3.out.fz 1; have hf2 := K3.out.fz 2; have hf3 := K3.out.fz 3))
        have HS2 := am_ (show w.heap.size ≤ b2 by rw [HG2.out]; exact Nat.le_refl _); have HS3 := am_ (show b2 < b3 by rw [HG3.out]; exact K2L.out); have N1 := am_ (show g ≠ b2 by have := HS2.out; have := HG.out; omega); have N2 := am_ (show g ≠ b3 by have := HS2.out; have := HS3.out; have := HG.out; omega); have N3 := am_ (show b2 ≠ b3 by have := HS3.out; omega); have HB3 := am_ (show w.heap.size ≤ b3 by have := HS2.out; have := HS3.out; omega); have HX4 : Aside0 (Lx ((((w3.setCell ⟨b3, 0, none⟩ (.int .i64 0)).setCell ⟨b3, 1, none⟩ (.int .i64 (i : Int))).setCell ⟨b3, 2, none⟩ (.string (⟨#[]⟩ : ByteArray))).setCell ⟨b3, 3, none⟩ (.string (⟨#[]⟩ : ByteArray))) g s i) := ⟨Lx.far (Lx.far (Lx.far (Lx.far HX.out N2.out _ _) N2.out _ _) N2.out _ _) N2.out _ _⟩
        have HK4 : Aside0 (Lk g w ((((w3.setCell ⟨b3, 0, none⟩ (.int .i64 0)).setCell ⟨b3, 1, none⟩ (.int .i64 (i : Int))).setCell ⟨b3, 2, none⟩ (.string (⟨#[]⟩ : ByteArray))).setCell ⟨b3, 3, none⟩ (.string (⟨#[]⟩ : ByteArray)))) := ⟨Lk.setN (Lk.setN (Lk.setN (Lk.setN HK.out HB3.out _ _) HB3.out _ _) HB3.out _ _) HB3.out _ _⟩
        have K24 : Aside0 (Tk ((((w3.setCell ⟨b3, 0, none⟩ (.int .i64 0)).setCell ⟨b3, 1, none⟩ (.int .i64 (i : Int))).setCell ⟨b3, 2, none⟩ (.string (⟨#[]⟩ : ByteArray))).setCell ⟨b3, 3, none⟩ (.string (⟨#[]⟩ : ByteArray))) b2 0 0 ⟨#[]⟩ ⟨#[]⟩) := ⟨Tk.far (Tk.far (Tk.far (Tk.far K2.out N3.out _ _) N3.out _ _) N3.out _ _) N3.out _ _⟩
        have K34 : Aside0 (Tk ((((w3.setCell ⟨b3, 0, none⟩ (.int .i64 0)).setCell ⟨b3, 1, none⟩ (.int .i64 (i : Int))).setCell ⟨b3, 2, none⟩ (.string (⟨#[]⟩ : ByteArray))).setCell ⟨b3, 3, none⟩ (.string (⟨#[]⟩ : ByteArray))) b3 0 (i : Int) ⟨#[]⟩ ⟨#[]⟩) := ⟨Tk.set3 (Tk.set2 (Tk.set1 (Tk.set0 K3.out _) _) _) _⟩
        clear HX HK K2 K3 hc0 hc1 hz1 ht0 ht1 ht2 ht3 hf0 hf1 hf2 hf3; generalize ((((w3.setCell ⟨b3, 0, none⟩ (.int .i64 0)).setCell ⟨b3, 1, none⟩ (.int .i64 (i : Int))).setCell ⟨b3, 2, none⟩ (.string (⟨#[]⟩ : ByteArray))).setCell ⟨b3, 3, none⟩ (.string (⟨#[]⟩ : ByteArray))) = w4 at HX4 HK4 K24 K34 ⊢
        have hc0 := HX4.out.s; have hc1 := HX4.out.i; go_wp2; refine wp_region_quiet_lit (by kernel_rfl) (by kernel_rfl) ?_
        repeat (go_big_quiet_step (fail))
        refine wpQuiet_nil ?_
        intro _ hw'; obtain ⟨nq, hw''⟩ := hw'; subst hw''; go_wp2; have HX5 : Aside0 (Lx (w4.drewN nq).drew g s i) := ⟨HX4.out⟩
        have HK5 : Aside0 (Lk g w (w4.drewN nq).drew) := ⟨(HK4.out.drewN nq).drew⟩
        have K25 : Aside0 (Tk (w4.drewN nq).drew b2 0 0 ⟨#[]⟩ ⟨#[]⟩) := ⟨K24.out⟩
        have K35 : Aside0 (Tk (w4.drewN nq).drew b3 0 (i : Int) ⟨#[]⟩ ⟨#[]⟩) := ⟨K34.out⟩
        clear HX4 HK4 K24 K34 hc0 hc1; refine start_ (n := 11) (S := (fun w' => w'.cell? ⟨g, 0, none⟩ = some (.string s) ∧ w'.cell? ⟨g, 1, none⟩ = some (.int .i64 (i : Int)))) (ds := []) #[false, false, false, false, false, false, false, false, false, false, false] (by kernel_rfl) rfl rfl ⟨HX5.out.s, HX5.out.i⟩ (fun hHeld => ?_)
        refine with_tabW lexer_word.tab4 lexer_word.bits4 (fun HT_ HW_ => ?_)
        generalize (w4.drewN nq).drew = w5 at HX5 HK5 K25 K35 hHeld ⊢
        refine pus_ 0 (some 21) #[true, false, false, false, false, false, false, false, false, false, false] rfl rfl HT_.out ?_
        refine pus_ 1 (some 22) #[true, true, false, false, false, false, false, false, false, false, false] rfl rfl HT_.out ?_
        refine pus_ 2 (some 23) #[true, true, true, false, false, false, false, false, false, false, false] rfl rfl HT_.out ?_
        refine tas_ 3 (some 24) #[true, true, true, true, false, false, false, false, false, false, false] rfl rfl HT_.out HW_.out hHeld ?_
        refine pus_ 4 (some 25) #[true, true, true, true, true, false, false, false, false, false, false] rfl rfl HT_.out ?_
        refine pus_ 5 (some 26) #[true, true, true, true, true, true, false, false, false, false, false] rfl rfl HT_.out ?_
        refine pus_ 6 (some 27) #[true, true, true, true, true, true, true, false, false, false, false] rfl rfl HT_.out ?_
        refine tas_ 7 (some 28) #[true, true, true, true, true, true, true, true, false, false, false] rfl rfl HT_.out HW_.out hHeld ?_
        refine pus_ 8 (some 29) #[true, true, true, true, true, true, true, true, true, false, false] rfl rfl HT_.out ?_
        refine one_ (i := 9) (N := (some 30)) #[true, true, true, true, true, true, true, true, true, true, false] rfl rfl (one_of HT_.out (by kernel_rfl)) (by decide) (fun K hK => ?_)
        refine goes_ Try.func55 (by kernel_rfl) rfl #[.string (s.extract i s.size)] (by rfl) rfl rfl goa_ ?_
        refine (number_Scan.calls _ n _ A1.out).mono ?_
        rintro e w6 ⟨rfl, hb⟩
        refine ⟨_, rfl, ?_⟩
        have HX := am_ (HX5.out.below hb); have HK := am_ (HK5.out.call hb); have K2 := am_ (K25.out.call hb); have K3 := am_ (K35.out.call hb); clear hb HX5 HK5 K25 K35; refine hK.out _ _ ⟨HX.out.s, HX.out.i⟩ (fun hHeld => ?_)
        clear hK K; refine norm_ (a' := ?_) ?_ ?_
        rotate_left
        ·show Act.put _ (some 30) _ = _
         simp only [Act.put, List.setIfInBounds_toArray, List.set_cons_zero, List.set_cons_succ, i64_w, i32_w]; rfl
        refine pus_ 10 (some 6) #[true, true, true, true, true, true, true, true, true, true, true] rfl rfl HT_.out ?_
        refine done_ (done_of HT_.out (by kernel_rfl)) ?_
        clear hHeld HT_ HW_; have hc0 := HX.out.s; have hc1 := HX.out.i; have hz1 := HX.out.fz; have ht0 := K3.out.c0; have ht1 := K3.out.c1; have ht2 := K3.out.c2; have ht3 := K3.out.c3; have hf0 := K3.out.fz 0; have hf1 := K3.out.fz 1; have hf2 := K3.out.fz 2; have hf3 := K3.out.fz 3; have hne := N2.out; have hne2 := N2.out.symm; have hne3 := N1.out; have hne4 := N1.out.symm; have hne5 := N3.out; have hne6 := N3.out.symm; go_wp2; go_region
        have HXn : Aside0 (Lx (((w6.setCell ⟨b3, 0, none⟩ (.int .i64 3)).setCell ⟨b3, 3, none⟩ (.string (s.extract i m))).drew) g s i) := ⟨(Lx.far (Lx.far HX.out N2.out _ _) N2.out _ _).drew⟩
        have HKn : Aside0 (Lk g w (((w6.setCell ⟨b3, 0, none⟩ (.int .i64 3)).setCell ⟨b3, 3, none⟩ (.string (s.extract i m))).drew)) := ⟨(Lk.setN (Lk.setN HK.out HB3.out _ _) HB3.out _ _).drew⟩
        have K2n : Aside0 (Tk (((w6.setCell ⟨b3, 0, none⟩ (.int .i64 3)).setCell ⟨b3, 3, none⟩ (.string (s.extract i m))).drew) b2 0 0 ⟨#[]⟩ ⟨#[]⟩) := ⟨(Tk.far (Tk.far K2.out N3.out _ _) N3.out _ _).drew⟩
        have K3n : Aside0 (Tk (((w6.setCell ⟨b3, 0, none⟩ (.int .i64 3)).setCell ⟨b3, 3, none⟩ (.string (s.extract i m))).drew) b3 3 (i : Int) ⟨#[]⟩ (s.extract i m)) := ⟨(Tk.set3 (Tk.set0 K3.out _) _).drew⟩
        clear HX HK K2 K3 hc0 hc1 hz1 ht0 ht1 ht2 ht3 hf0 hf1 hf2 hf3; have HX := HXn; have HK := HKn; have K2 := K2n; have K3 := K3n; clear HXn HKn K2n K3n; generalize (((w6.setCell ⟨b3, 0, none⟩ (.int .i64 3)).setCell ⟨b3, 3, none⟩ (.string (s.extract i m))).drew) = w7 at HX HK K2 K3 ⊢
        have hc0 := HX.out.s; have hc1 := HX.out.i; have hz1 := HX.out.fz; have ht0 := K3.out.c0; have ht1 := K3.out.c1; have ht2 := K3.out.c2; have ht3 := K3.out.c3; have hf0 := K3.out.fz 0; have hf1 := K3.out.fz 1; have hf2 := K3.out.fz 2; have hf3 := K3.out.fz 3; have hr0 := K2.out.c0; have hr1 := K2.out.c1; have hr2 := K2.out.c2; have hr3 := K2.out.c3; have hs0 := K2.out.fz 0; have hs1 := K2.out.fz 1; have hs2 := K2.out.fz 2; have hs3 := K2.out.fz 3; have HWM := am_ (show IntKind.i64.wrap (m : Int) = (m : Int) from wrapE m 0 (by have := HM.out; have := HS.out; omega)); obtain ⟨p, hp, hf⟩ := bs_ hf; have A2 := am_ hp; clear hp; cases p
        · rw [if_neg (by decide)] at hf
          obtain ⟨b, hb, hf⟩ := bs_ hf; have A3 := am_ hb; clear hb; cases b
          · rw [if_neg (by decide)] at hf
            obtain ⟨rfl, rfl, rfl, rfl⟩ : (3 : Int) = kd ∧ (⟨#[]⟩ : ByteArray) = tx ∧ s.extract i m = nm ∧ m = j := by
              have h := si_ hf; simp only [Prod.mk.injEq] at h; exact h
            clear hf; go_wp2_with (first | (go_at_call 56; with_reducible refine (is_pct0 s g m m HS.out HWM.out _ _ ?lx A2.out).mono ?_; (case lx => exact (by repeat (first | (with_reducible first | exact HX.out | apply Lx.drewN | apply Lx.set)))); rintro e wi ⟨rfl, ⟨ni, rfl⟩⟩) | (go_at_call 58; with_reducible refine (begins_calls k s g m HS.out HM.out _ _ ?lx A3.out).mono ?_; (case lx => exact (by repeat (first | (with_reducible first | exact HX.out | apply Lx.drewN | apply Lx.drew | apply Lx.set | apply lx_far N2.out)))); rintro e wb ⟨rfl, hb⟩; have HXn := am_ (Lx.below (by repeat (first | (with_reducible first | exact HX.out | apply Lx.drewN | apply Lx.drew | apply Lx.set | apply lx_far N2.out))) hb); have HKn := am_ (Lk.call (by repeat (first | (with_reducible first | exact HK.out | apply Lk.drewN | apply Lk.drew | apply Lk.set | apply lk_setN HB3.out))) hb); have K2n := am_ (Tk.call (by repeat (first | (with_reducible first | exact K2.out | apply Tk.drewN | apply Tk.drew | apply tk_far N1.out.symm | apply tk_far N3.out))) hb); have K3n := am_ (Tk.call (by repeat (first | (with_reducible first | exact K3.out | apply Tk.drewN | apply Tk.drew | apply tk_far N2.out.symm))) hb); clear hb; clear HX HK K2 K3; have HX := HXn; have HK := HKn; have K2 := K2n; have K3 := K3n; clear HXn HKn K2n K3n; have hc0 := HX.out.s; have hc1 := HX.out.i; have hz1 := HX.out.fz; have ht0 := K3.out.c0; have ht1 := K3.out.c1; have ht2 := K3.out.c2; have ht3 := K3.out.c3; have hf0 := K3.out.fz 0; have hf1 := K3.out.fz 1; have hf2 := K3.out.fz 2; have hf3 := K3.out.fz 3; have hr0 := K2.out.c0; have hr1 := K2.out.c1; have hr2 := K2.out.c2; have hr3 := K2.out.c3; have hs0 := K2.out.fz 0; have hs1 := K2.out.fz 1; have hs2 := K2.out.fz 2; have hs3 := K2.out.fz 3))
            refine bodyPost_ret (results_cell_row rfl _ _ b2 43 #[.int .i64 3, .int .i64 (i : Int), .string (⟨#[]⟩ : ByteArray), .string (s.extract i m)] (0, 0) _ rfl (show _ from Tk.set3 (Tk.set2 (Tk.set1 (Tk.set0 (by repeat (first | (with_reducible first | exact K2.out | apply Tk.drewN | apply Tk.drew | apply tk_far N1.out.symm | apply tk_far N3.out))) _) _) _) _) huT rfl (by kernel_rfl)) rfl ?_
            exact ⟨rfl, Lx.far (Lx.far (Lx.far (Lx.far (by repeat (first | (with_reducible first | exact HX.out | apply Lx.drewN | apply Lx.drew | apply Lx.set | apply lx_far N2.out))) N1.out _ _) N1.out _ _) N1.out _ _) N1.out _ _, Lk.setN (Lk.setN (Lk.setN (Lk.setN (by repeat (first | (with_reducible first | exact HK.out | apply Lk.drewN | apply Lk.drew | apply Lk.set | apply lk_setN HB3.out))) HS2.out _ _) HS2.out _ _) HS2.out _ _) HS2.out _ _⟩
          rw [if_pos rfl] at hf; obtain ⟨⟨l, e⟩, ht, hf⟩ := bs_ hf; have A4 := am_ ht; clear ht; try dsimp only at hf
          by_cases h3 : l.length ≤ 64 ∧ e ≤ s.size
          · rw [if_pos h3] at hf
            obtain ⟨x, hx⟩ : ∃ x : ByteArray, (⟨l.toArray⟩ : ByteArray) = x := ⟨_, rfl⟩
            have HTX := am_ hx; have hxs : x.size ≤ 64 := by
              rw [← hx]; show l.toArray.size ≤ 64
              rw [List.size_toArray]; exact h3.1
            have p8 : decide ((x.size : Int) > 64) = false := df_ (by omega); have p9 : decide (64 < (x.size : Int)) = false := df_ (by omega); rw [hx] at hf; clear h3 hxs hx; obtain ⟨rfl, rfl, rfl, rfl⟩ : (5 : Int) = kd ∧ x = tx ∧ s.extract i m = nm ∧ e = j := by
              have h := si_ hf; simp only [Prod.mk.injEq] at h; exact h
            clear hf; go_wp2_with (first | (go_at_call 56; with_reducible refine (is_pct0 s g m m HS.out HWM.out _ _ ?lx A2.out).mono ?_; (case lx => exact (by repeat (first | (with_reducible first | exact HX.out | apply Lx.drewN | apply Lx.set)))); rintro e wi ⟨rfl, ⟨ni, rfl⟩⟩) | (go_at_call 58; with_reducible refine (begins_calls k s g m HS.out HM.out _ _ ?lx A3.out).mono ?_; (case lx => exact (by repeat (first | (with_reducible first | exact HX.out | apply Lx.drewN | apply Lx.drew | apply Lx.set | apply lx_far N2.out)))); rintro e wb ⟨rfl, hb⟩; have HXn := am_ (Lx.below (by repeat (first | (with_reducible first | exact HX.out | apply Lx.drewN | apply Lx.drew | apply Lx.set | apply lx_far N2.out))) hb); have HKn := am_ (Lk.call (by repeat (first | (with_reducible first | exact HK.out | apply Lk.drewN | apply Lk.drew | apply Lk.set | apply lk_setN HB3.out))) hb); have K2n := am_ (Tk.call (by repeat (first | (with_reducible first | exact K2.out | apply Tk.drewN | apply Tk.drew | apply tk_far N1.out.symm | apply tk_far N3.out))) hb); have K3n := am_ (Tk.call (by repeat (first | (with_reducible first | exact K3.out | apply Tk.drewN | apply Tk.drew | apply tk_far N2.out.symm))) hb); clear hb; clear HX HK K2 K3; have HX := HXn; have HK := HKn; have K2 := K2n; have K3 := K3n; clear HXn HKn K2n K3n; have hc0 := HX.out.s; have hc1 := HX.out.i; have hz1 := HX.out.fz; have ht0 := K3.out.c0; have ht1 := K3.out.c1; have ht2 := K3.out.c2; have ht3 := K3.out.c3; have hf0 := K3.out.fz 0; have hf1 := K3.out.fz 1; have hf2 := K3.out.fz 2; have hf3 := K3.out.fz 3; have hr0 := K2.out.c0; have hr1 := K2.out.c1; have hr2 := K2.out.c2; have hr3 := K2.out.c3; have hs0 := K2.out.fz 0; have hs1 := K2.out.fz 1; have hs2 := K2.out.fz 2; have hs3 := K2.out.fz 3) | (go_at_call 59; with_reducible refine (ident_calls k s g m _ _ HS.out HM.out _ ?lx A4.out).mono ?_; (case lx => exact (by repeat (first | (with_reducible first | exact HX.out | apply Lx.drewN | apply Lx.drew | apply Lx.set | apply lx_far N2.out)))); rintro e wd ⟨rfl, hx, hk⟩; rw [HTX.out]; have HXn := am_ hx; have HKn := am_ (Lk.trans (by repeat (first | (with_reducible first | exact HK.out | apply Lk.drewN | apply Lk.drew | apply Lk.set | apply lk_setN HB3.out))) hk); have K2n := am_ (Tk.lk (by repeat (first | (with_reducible first | exact K2.out | apply Tk.drewN | apply Tk.drew | apply tk_far N1.out.symm | apply tk_far N3.out))) hk N1.out.symm); have K3n := am_ (Tk.lk (by repeat (first | (with_reducible first | exact K3.out | apply Tk.drewN | apply Tk.drew | apply tk_far N2.out.symm))) hk N2.out.symm); clear hx hk; clear HX HK K2 K3; have HX := HXn; have HK := HKn; have K2 := K2n; have K3 := K3n; clear HXn HKn K2n K3n; have hc0 := HX.out.s; have hc1 := HX.out.i; have hz1 := HX.out.fz; have ht0 := K3.out.c0; have ht1 := K3.out.c1; have ht2 := K3.out.c2; have ht3 := K3.out.c3; have hf0 := K3.out.fz 0; have hf1 := K3.out.fz 1; have hf2 := K3.out.fz 2; have hf3 := K3.out.fz 3; have hr0 := K2.out.c0; have hr1 := K2.out.c1; have hr2 := K2.out.c2; have hr3 := K2.out.c3; have hs0 := K2.out.fz 0; have hs1 := K2.out.fz 1; have hs2 := K2.out.fz 2; have hs3 := K2.out.fz 3))
            refine bodyPost_ret (results_cell_row rfl _ _ b2 43 #[.int .i64 5, .int .i64 (i : Int), .string x, .string (s.extract i m)] (0, 0) _ rfl (show _ from Tk.set3 (Tk.set2 (Tk.set1 (Tk.set0 (by repeat (first | (with_reducible first | exact K2.out | apply Tk.drewN | apply Tk.drew | apply tk_far N1.out.symm | apply tk_far N3.out))) _) _) _) _) huT rfl (by kernel_rfl)) rfl ?_
            exact ⟨rfl, Lx.far (Lx.far (Lx.far (Lx.far (by repeat (first | (with_reducible first | exact HX.out | apply Lx.drewN | apply Lx.drew | apply Lx.set | apply lx_far N2.out))) N1.out _ _) N1.out _ _) N1.out _ _) N1.out _ _, Lk.setN (Lk.setN (Lk.setN (Lk.setN (by repeat (first | (with_reducible first | exact HK.out | apply Lk.drewN | apply Lk.drew | apply Lk.set | apply lk_setN HB3.out))) HS2.out _ _) HS2.out _ _) HS2.out _ _) HS2.out _ _⟩
          rw [if_neg h3] at hf; cases hf
        rw [if_pos rfl] at hf; have hwm1 : wrap64 ((m : Int) + 1) = ((m + 1 : Nat) : Int) := by have := HM.out; have := HS.out; unfold wrap64; omega
        obtain ⟨rfl, rfl, rfl, rfl⟩ : (4 : Int) = kd ∧ (⟨#[]⟩ : ByteArray) = tx ∧ s.extract i m = nm ∧ m + 1 = j := by
          have h := si_ hf; simp only [Prod.mk.injEq] at h; exact h
        clear hf; go_wp2_with (first | (go_at_call 56; with_reducible refine (is_pct0 s g m m HS.out HWM.out _ _ ?lx A2.out).mono ?_; (case lx => exact (by repeat (first | (with_reducible first | exact HX.out | apply Lx.drewN | apply Lx.set)))); rintro e wi ⟨rfl, ⟨ni, rfl⟩⟩))
        refine bodyPost_ret (results_cell_row rfl _ _ b2 43 #[.int .i64 4, .int .i64 (i : Int), .string (⟨#[]⟩ : ByteArray), .string (s.extract i m)] (0, 0) _ rfl (show _ from Tk.set3 (Tk.set2 (Tk.set1 (Tk.set0 (by repeat (first | (with_reducible first | exact K2.out | apply Tk.drewN | apply Tk.drew | apply tk_far N1.out.symm | apply tk_far N3.out))) _) _) _) _) huT rfl (by kernel_rfl)) rfl ?_
        exact ⟨rfl, Lx.far (Lx.far (Lx.far (Lx.far (Lx.setv (by repeat (first | (with_reducible first | exact HX.out | apply Lx.drewN | apply Lx.drew | apply Lx.set | apply lx_far N2.out))) (by omega)) N1.out _ _) N1.out _ _) N1.out _ _) N1.out _ _, Lk.setN (Lk.setN (Lk.setN (Lk.setN (by repeat (first | (with_reducible first | exact HK.out | apply Lk.drewN | apply Lk.drew | apply Lk.set | apply lk_setN HB3.out))) HS2.out _ _) HS2.out _ _) HS2.out _ _) HS2.out _ _⟩
      rw [if_neg h2] at hf; cases hf
    rw [if_neg h1] at hf; have p1 : decide (n > 0) = false := df_ h1; have p2 : decide (0 < n) = false := df_ h1; clear hlt hs h1; obtain ⟨b, hb, hf⟩ := bs_ hf; have A2 := am_ hb; clear hb; cases b
    · rw [if_neg (by decide)] at hf
      by_cases h3 : bt s (i : Nat) = 34 ∨ bt s (i : Nat) = 39
      · rw [if_pos h3] at hf
        obtain ⟨⟨l, e⟩, ht, hf⟩ := bs_ hf; have A4 := am_ ht; clear ht; try dsimp only at hf
        by_cases h4 : l.length ≤ 8192 ∧ e ≤ s.size
        · rw [if_pos h4] at hf
          obtain ⟨x, hx⟩ : ∃ x : ByteArray, (⟨l.toArray⟩ : ByteArray) = x := ⟨_, rfl⟩
          have HTX := am_ hx; have hxs : x.size ≤ 8192 := by
            rw [← hx]; show l.toArray.size ≤ 8192
            rw [List.size_toArray]; exact h4.1
          have p8 : decide ((x.size : Int) > 8192) = false := df_ (by omega); have p9 : decide (8192 < (x.size : Int)) = false := df_ (by omega); rw [hx] at hf; clear hxs hx h4; by_cases h34 : bt s (i : Nat) = 34
          · have p3 : (bt s (i : Nat) == 34) = true := beq_iff_eq.mpr h34
            clear h3 h34; obtain ⟨rfl, rfl, rfl, rfl⟩ : (6 : Int) = kd ∧ x = tx ∧ (⟨#[]⟩ : ByteArray) = nm ∧ e = j := by
              have h := si_ hf; simp only [Prod.mk.injEq] at h; exact h
            clear hf; go_enter Try.func41, Try.ntmps41
            go_wp2_with (first | ((with_reducible refine gate_dst (N := 2) rfl ?_); (try (refine gate_guard (by rfl) ?_; dsimp only)); refine box_event ?hg (N := 2) ?hd (cs := #[.int .i64 0, .int .i64 0, .string (⟨#[]⟩ : ByteArray), .string (⟨#[]⟩ : ByteArray)]) (t := 43) ?hr ?_; (case hd => rfl); (case hg => rfl); (case hr => first | (go_simp; done) | (go_simp; rfl)); intro b2 hg w2 hbox hb; have HG2 := am_ hg; have K2 := am_ (show Tk w2 b2 0 0 ⟨#[]⟩ ⟨#[]⟩ from hbox); have HX2 := am_ (Lx.below HX.out hb); have HK2 := am_ (Lk.of_below (g := g) hb); clear hg hbox hb HX; have HX := HX2; have HK := HK2; clear HX2 HK2; have hc0 := HX.out.s; have hc1 := HX.out.i; have hz1 := HX.out.fz) | ((with_reducible refine gate_dst (N := 3) rfl ?_); (try (refine gate_guard (by rfl) ?_; dsimp only)); refine box_event ?hg (N := 3) ?hd (cs := #[.int .i64 0, .int .i64 0, .string (⟨#[]⟩ : ByteArray), .string (⟨#[]⟩ : ByteArray)]) (t := 43) ?hr ?_; (case hd => rfl); (case hg => rfl); (case hr => first | (go_simp; done) | (go_simp; rfl)); intro b3 hg w3 hbox hb; have HG3 := am_ hg; have K2L := am_ (Tk.lt K2.out); have K3 := am_ (show Tk w3 b3 0 0 ⟨#[]⟩ ⟨#[]⟩ from hbox); have HX2 := am_ (Lx.below HX.out hb); have HK2 := am_ (Lk.call HK.out hb); have K22 := am_ (Tk.call K2.out hb); clear hg hbox hb HX HK K2; have HX := HX2; have HK := HK2; have K2 := K22; clear HX2 HK2 K22; have ht0 := K3.out.c0; have ht1 := K3.out.c1; have ht2 := K3.out.c2; have ht3 := K3.out.c3; have hf0 := K3.out.fz 0; have hf1 := K3.out.fz 1; have hf2 := K3.out.fz 2; have hf3 := K3.out.fz 3))
            have HS2 := am_ (show w.heap.size ≤ b2 by rw [HG2.out]; exact Nat.le_refl _); have HS3 := am_ (show b2 < b3 by rw [HG3.out]; exact K2L.out); have N1 := am_ (show g ≠ b2 by have := HS2.out; have := HG.out; omega); have N2 := am_ (show g ≠ b3 by have := HS2.out; have := HS3.out; have := HG.out; omega); have N3 := am_ (show b2 ≠ b3 by have := HS3.out; omega); have HB3 := am_ (show w.heap.size ≤ b3 by have := HS2.out; have := HS3.out; omega); have HX4 : Aside0 (Lx ((((w3.setCell ⟨b3, 0, none⟩ (.int .i64 0)).setCell ⟨b3, 1, none⟩ (.int .i64 (i : Int))).setCell ⟨b3, 2, none⟩ (.string (⟨#[]⟩ : ByteArray))).setCell ⟨b3, 3, none⟩ (.string (⟨#[]⟩ : ByteArray))) g s i) := ⟨Lx.far (Lx.far (Lx.far (Lx.far HX.out N2.out _ _) N2.out _ _) N2.out _ _) N2.out _ _⟩
            have HK4 : Aside0 (Lk g w ((((w3.setCell ⟨b3, 0, none⟩ (.int .i64 0)).setCell ⟨b3, 1, none⟩ (.int .i64 (i : Int))).setCell ⟨b3, 2, none⟩ (.string (⟨#[]⟩ : ByteArray))).setCell ⟨b3, 3, none⟩ (.string (⟨#[]⟩ : ByteArray)))) := ⟨Lk.setN (Lk.setN (Lk.setN (Lk.setN HK.out HB3.out _ _) HB3.out _ _) HB3.out _ _) HB3.out _ _⟩
            have K24 : Aside0 (Tk ((((w3.setCell ⟨b3, 0, none⟩ (.int .i64 0)).setCell ⟨b3, 1, none⟩ (.int .i64 (i : Int))).setCell ⟨b3, 2, none⟩ (.string (⟨#[]⟩ : ByteArray))).setCell ⟨b3, 3, none⟩ (.string (⟨#[]⟩ : ByteArray))) b2 0 0 ⟨#[]⟩ ⟨#[]⟩) := ⟨Tk.far (Tk.far (Tk.far (Tk.far K2.out N3.out _ _) N3.out _ _) N3.out _ _) N3.out _ _⟩
            have K34 : Aside0 (Tk ((((w3.setCell ⟨b3, 0, none⟩ (.int .i64 0)).setCell ⟨b3, 1, none⟩ (.int .i64 (i : Int))).setCell ⟨b3, 2, none⟩ (.string (⟨#[]⟩ : ByteArray))).setCell ⟨b3, 3, none⟩ (.string (⟨#[]⟩ : ByteArray))) b3 0 (i : Int) ⟨#[]⟩ ⟨#[]⟩) := ⟨Tk.set3 (Tk.set2 (Tk.set1 (Tk.set0 K3.out _) _) _) _⟩
            clear HX HK K2 K3 hc0 hc1 hz1 ht0 ht1 ht2 ht3 hf0 hf1 hf2 hf3; generalize ((((w3.setCell ⟨b3, 0, none⟩ (.int .i64 0)).setCell ⟨b3, 1, none⟩ (.int .i64 (i : Int))).setCell ⟨b3, 2, none⟩ (.string (⟨#[]⟩ : ByteArray))).setCell ⟨b3, 3, none⟩ (.string (⟨#[]⟩ : ByteArray))) = w4 at HX4 HK4 K24 K34 ⊢
            have hc0 := HX4.out.s; have hc1 := HX4.out.i; go_wp2; refine wp_region_quiet_lit (by kernel_rfl) (by kernel_rfl) ?_
            repeat (go_big_quiet_step (fail))
            refine wpQuiet_nil ?_
            intro _ hw'; obtain ⟨nq, hw''⟩ := hw'; subst hw''; go_wp2; have HX5 : Aside0 (Lx (w4.drewN nq).drew g s i) := ⟨HX4.out⟩
            have HK5 : Aside0 (Lk g w (w4.drewN nq).drew) := ⟨(HK4.out.drewN nq).drew⟩
            have K25 : Aside0 (Tk (w4.drewN nq).drew b2 0 0 ⟨#[]⟩ ⟨#[]⟩) := ⟨K24.out⟩
            have K35 : Aside0 (Tk (w4.drewN nq).drew b3 0 (i : Int) ⟨#[]⟩ ⟨#[]⟩) := ⟨K34.out⟩
            clear HX4 HK4 K24 K34 hc0 hc1; refine start_ (n := 11) (S := (fun w' => w'.cell? ⟨g, 0, none⟩ = some (.string s) ∧ w'.cell? ⟨g, 1, none⟩ = some (.int .i64 (i : Int)))) (ds := []) #[false, false, false, false, false, false, false, false, false, false, false] (by kernel_rfl) rfl rfl ⟨HX5.out.s, HX5.out.i⟩ (fun hHeld => ?_)
            refine with_tabW lexer_word.tab4 lexer_word.bits4 (fun HT_ HW_ => ?_)
            generalize (w4.drewN nq).drew = w5 at HX5 HK5 K25 K35 hHeld ⊢
            refine pus_ 0 (some 21) #[true, false, false, false, false, false, false, false, false, false, false] rfl rfl HT_.out ?_
            refine pus_ 1 (some 22) #[true, true, false, false, false, false, false, false, false, false, false] rfl rfl HT_.out ?_
            refine pus_ 2 (some 23) #[true, true, true, false, false, false, false, false, false, false, false] rfl rfl HT_.out ?_
            refine tas_ 3 (some 24) #[true, true, true, true, false, false, false, false, false, false, false] rfl rfl HT_.out HW_.out hHeld ?_
            refine pus_ 4 (some 25) #[true, true, true, true, true, false, false, false, false, false, false] rfl rfl HT_.out ?_
            refine pus_ 5 (some 26) #[true, true, true, true, true, true, false, false, false, false, false] rfl rfl HT_.out ?_
            refine pus_ 6 (some 27) #[true, true, true, true, true, true, true, false, false, false, false] rfl rfl HT_.out ?_
            refine tas_ 7 (some 28) #[true, true, true, true, true, true, true, true, false, false, false] rfl rfl HT_.out HW_.out hHeld ?_
            refine pus_ 8 (some 29) #[true, true, true, true, true, true, true, true, true, false, false] rfl rfl HT_.out ?_
            refine one_ (i := 9) (N := (some 30)) #[true, true, true, true, true, true, true, true, true, true, false] rfl rfl (one_of HT_.out (by kernel_rfl)) (by decide) (fun K hK => ?_)
            refine goes_ Try.func55 (by kernel_rfl) rfl #[.string (s.extract i s.size)] (by rfl) rfl rfl goa_ ?_
            refine (number_Scan.calls _ n _ A1.out).mono ?_
            rintro e w6 ⟨rfl, hb⟩
            refine ⟨_, rfl, ?_⟩
            have HX := am_ (HX5.out.below hb); have HK := am_ (HK5.out.call hb); have K2 := am_ (K25.out.call hb); have K3 := am_ (K35.out.call hb); clear hb HX5 HK5 K25 K35; refine hK.out _ _ ⟨HX.out.s, HX.out.i⟩ (fun hHeld => ?_)
            clear hK K; refine norm_ (a' := ?_) ?_ ?_
            rotate_left
            ·show Act.put _ (some 30) _ = _
             simp only [Act.put, List.setIfInBounds_toArray, List.set_cons_zero, List.set_cons_succ, i64_w, i32_w]; rfl
            refine pus_ 10 (some 6) #[true, true, true, true, true, true, true, true, true, true, true] rfl rfl HT_.out ?_
            refine done_ (done_of HT_.out (by kernel_rfl)) ?_
            clear hHeld HT_ HW_; have hc0 := HX.out.s; have hc1 := HX.out.i; have hz1 := HX.out.fz; have ht0 := K3.out.c0; have ht1 := K3.out.c1; have ht2 := K3.out.c2; have ht3 := K3.out.c3; have hf0 := K3.out.fz 0; have hf1 := K3.out.fz 1; have hf2 := K3.out.fz 2; have hf3 := K3.out.fz 3; have hne := N2.out; have hne2 := N2.out.symm; have hne3 := N1.out; have hne4 := N1.out.symm; have hne5 := N3.out; have hne6 := N3.out.symm; go_wp2_with (first | (go_at_call 58; with_reducible refine (begins_calls k s g i HS.out HII.out _ _ ?lx A2.out).mono ?_; (case lx => exact (by repeat (first | (with_reducible first | exact HX.out | apply Lx.drewN | apply Lx.drew | apply Lx.set | apply lx_far N2.out)))); rintro e wb ⟨rfl, hb⟩; have HXn := am_ (Lx.below (by repeat (first | (with_reducible first | exact HX.out | apply Lx.drewN | apply Lx.drew | apply Lx.set | apply lx_far N2.out))) hb); have HKn := am_ (Lk.call (by repeat (first | (with_reducible first | exact HK.out | apply Lk.drewN | apply Lk.drew | apply Lk.set | apply lk_setN HB3.out))) hb); have K2n := am_ (Tk.call (by repeat (first | (with_reducible first | exact K2.out | apply Tk.drewN | apply Tk.drew | apply tk_far N1.out.symm | apply tk_far N3.out))) hb); have K3n := am_ (Tk.call (by repeat (first | (with_reducible first | exact K3.out | apply Tk.drewN | apply Tk.drew | apply tk_far N2.out.symm))) hb); clear hb; clear HX HK K2 K3; have HX := HXn; have HK := HKn; have K2 := K2n; have K3 := K3n; clear HXn HKn K2n K3n; have hc0 := HX.out.s; have hc1 := HX.out.i; have hz1 := HX.out.fz; have ht0 := K3.out.c0; have ht1 := K3.out.c1; have ht2 := K3.out.c2; have ht3 := K3.out.c3; have hf0 := K3.out.fz 0; have hf1 := K3.out.fz 1; have hf2 := K3.out.fz 2; have hf3 := K3.out.fz 3; have hr0 := K2.out.c0; have hr1 := K2.out.c1; have hr2 := K2.out.c2; have hr3 := K2.out.c3; have hs0 := K2.out.fz 0; have hs1 := K2.out.fz 1; have hs2 := K2.out.fz 2; have hs3 := K2.out.fz 3) | (go_at_call 61; with_reducible refine (quoted_calls k s g i _ _ HS.out HLT.out _ ?lx A4.out).mono ?_; (case lx => exact (by repeat (first | (with_reducible first | exact HX.out | apply Lx.drewN | apply Lx.drew | apply Lx.set | apply lx_far N2.out)))); rintro e wd ⟨rfl, hx, hk⟩; rw [HTX.out]; have HXn := am_ hx; have HKn := am_ (Lk.trans (by repeat (first | (with_reducible first | exact HK.out | apply Lk.drewN | apply Lk.drew | apply Lk.set | apply lk_setN HB3.out))) hk); have K2n := am_ (Tk.lk (by repeat (first | (with_reducible first | exact K2.out | apply Tk.drewN | apply Tk.drew | apply tk_far N1.out.symm | apply tk_far N3.out))) hk N1.out.symm); have K3n := am_ (Tk.lk (by repeat (first | (with_reducible first | exact K3.out | apply Tk.drewN | apply Tk.drew | apply tk_far N2.out.symm))) hk N2.out.symm); clear hx hk; clear HX HK K2 K3; have HX := HXn; have HK := HKn; have K2 := K2n; have K3 := K3n; clear HXn HKn K2n K3n; have hc0 := HX.out.s; have hc1 := HX.out.i; have hz1 := HX.out.fz; have ht0 := K3.out.c0; have ht1 := K3.out.c1; have ht2 := K3.out.c2; have ht3 := K3.out.c3; have hf0 := K3.out.fz 0; have hf1 := K3.out.fz 1; have hf2 := K3.out.fz 2; have hf3 := K3.out.fz 3; have hr0 := K2.out.c0; have hr1 := K2.out.c1; have hr2 := K2.out.c2; have hr3 := K2.out.c3; have hs0 := K2.out.fz 0; have hs1 := K2.out.fz 1; have hs2 := K2.out.fz 2; have hs3 := K2.out.fz 3))
            refine bodyPost_ret (results_cell_row rfl _ _ b2 43 #[.int .i64 6, .int .i64 (i : Int), .string x, .string (⟨#[]⟩ : ByteArray)] (0, 0) _ rfl (show _ from Tk.set3 (Tk.set2 (Tk.set1 (Tk.set0 (by repeat (first | (with_reducible first | exact K2.out | apply Tk.drewN | apply Tk.drew | apply tk_far N1.out.symm | apply tk_far N3.out))) _) _) _) _) huT rfl (by kernel_rfl)) rfl ?_
            exact ⟨rfl, Lx.far (Lx.far (Lx.far (Lx.far (by repeat (first | (with_reducible first | exact HX.out | apply Lx.drewN | apply Lx.drew | apply Lx.set | apply lx_far N2.out))) N1.out _ _) N1.out _ _) N1.out _ _) N1.out _ _, Lk.setN (Lk.setN (Lk.setN (Lk.setN (by repeat (first | (with_reducible first | exact HK.out | apply Lk.drewN | apply Lk.drew | apply Lk.set | apply lk_setN HB3.out))) HS2.out _ _) HS2.out _ _) HS2.out _ _) HS2.out _ _⟩
          have p3 : (bt s (i : Nat) == 34) = false := beq_eq_false_iff_ne.mpr h34; have p4 : (bt s (i : Nat) == 39) = true := beq_iff_eq.mpr (h3.resolve_left h34); clear h3 h34; obtain ⟨rfl, rfl, rfl, rfl⟩ : (6 : Int) = kd ∧ x = tx ∧ (⟨#[]⟩ : ByteArray) = nm ∧ e = j := by
            have h := si_ hf; simp only [Prod.mk.injEq] at h; exact h
          clear hf; go_enter Try.func41, Try.ntmps41
          go_wp2_with (first | ((with_reducible refine gate_dst (N := 2) rfl ?_); (try (refine gate_guard (by rfl) ?_; dsimp only)); refine box_event ?hg (N := 2) ?hd (cs := #[.int .i64 0, .int .i64 0, .string (⟨#[]⟩ : ByteArray), .string (⟨#[]⟩ : ByteArray)]) (t := 43) ?hr ?_; (case hd => rfl); (case hg => rfl); (case hr => first | (go_simp; done) | (go_simp; rfl)); intro b2 hg w2 hbox hb; have HG2 := am_ hg; have K2 := am_ (show Tk w2 b2 0 0 ⟨#[]⟩ ⟨#[]⟩ from hbox); have HX2 := am_ (Lx.below HX.out hb); have HK2 := am_ (Lk.of_below (g := g) hb); clear hg hbox hb HX; have HX := HX2; have HK := HK2; clear HX2 HK2; have hc0 := HX.out.s; have hc1 := HX.out.i; have hz1 := HX.out.fz) | ((with_reducible refine gate_dst (N := 3) rfl ?_); (try (refine gate_guard (by rfl) ?_; dsimp only)); refine box_event ?hg (N := 3) ?hd (cs := #[.int .i64 0, .int .i64 0, .string (⟨#[]⟩ : ByteArray), .string (⟨#[]⟩ : ByteArray)]) (t := 43) ?hr ?_; (case hd => rfl); (case hg => rfl); (case hr => first | (go_simp; done) | (go_simp; rfl)); intro b3 hg w3 hbox hb; have HG3 := am_ hg; have K2L := am_ (Tk.lt K2.out); have K3 := am_ (show Tk w3 b3 0 0 ⟨#[]⟩ ⟨#[]⟩ from hbox); have HX2 := am_ (Lx.below HX.out hb); have HK2 := am_ (Lk.call HK.out hb); have K22 := am_ (Tk.call K2.out hb); clear hg hbox hb HX HK K2; have HX := HX2; have HK := HK2; have K2 := K22; clear HX2 HK2 K22; have ht0 := K3.out.c0; have ht1 := K3.out.c1; have ht2 := K3.out.c2; have ht3 := K3.out.c3; have hf0 := K3.out.fz 0; have hf1 := K3.out.fz 1; have hf2 := K3.out.fz 2; have hf3 := K3.out.fz 3))
          have HS2 := am_ (show w.heap.size ≤ b2 by rw [HG2.out]; exact Nat.le_refl _); have HS3 := am_ (show b2 < b3 by rw [HG3.out]; exact K2L.out); have N1 := am_ (show g ≠ b2 by have := HS2.out; have := HG.out; omega); have N2 := am_ (show g ≠ b3 by have := HS2.out; have := HS3.out; have := HG.out; omega); have N3 := am_ (show b2 ≠ b3 by have := HS3.out; omega); have HB3 := am_ (show w.heap.size ≤ b3 by have := HS2.out; have := HS3.out; omega); have HX4 : Aside0 (Lx ((((w3.setCell ⟨b3, 0, none⟩ (.int .i64 0)).setCell ⟨b3, 1, none⟩ (.int .i64 (i : Int))).setCell ⟨b3, 2, none⟩ (.string (⟨#[]⟩ : ByteArray))).setCell ⟨b3, 3, none⟩ (.string (⟨#[]⟩ : ByteArray))) g s i) := ⟨Lx.far (Lx.far (Lx.far (Lx.far HX.out N2.out _ _) N2.out _ _) N2.out _ _) N2.out _ _⟩
          have HK4 : Aside0 (Lk g w ((((w3.setCell ⟨b3, 0, none⟩ (.int .i64 0)).setCell ⟨b3, 1, none⟩ (.int .i64 (i : Int))).setCell ⟨b3, 2, none⟩ (.string (⟨#[]⟩ : ByteArray))).setCell ⟨b3, 3, none⟩ (.string (⟨#[]⟩ : ByteArray)))) := ⟨Lk.setN (Lk.setN (Lk.setN (Lk.setN HK.out HB3.out _ _) HB3.out _ _) HB3.out _ _) HB3.out _ _⟩
          have K24 : Aside0 (Tk ((((w3.setCell ⟨b3, 0, none⟩ (.int .i64 0)).setCell ⟨b3, 1, none⟩ (.int .i64 (i : Int))).setCell ⟨b3, 2, none⟩ (.string (⟨#[]⟩ : ByteArray))).setCell ⟨b3, 3, none⟩ (.string (⟨#[]⟩ : ByteArray))) b2 0 0 ⟨#[]⟩ ⟨#[]⟩) := ⟨Tk.far (Tk.far (Tk.far (Tk.far K2.out N3.out _ _) N3.out _ _) N3.out _ _) N3.out _ _⟩
          have K34 : Aside0 (Tk ((((w3.setCell ⟨b3, 0, none⟩ (.int .i64 0)).setCell ⟨b3, 1, none⟩ (.int .i64 (i : Int))).setCell ⟨b3, 2, none⟩ (.string (⟨#[]⟩ : ByteArray))).setCell ⟨b3, 3, none⟩ (.string (⟨#[]⟩ : ByteArray))) b3 0 (i : Int) ⟨#[]⟩ ⟨#[]⟩) := ⟨Tk.set3 (Tk.set2 (Tk.set1 (Tk.set0 K3.out _) _) _) _⟩
          clear HX HK K2 K3 hc0 hc1 hz1 ht0 ht1 ht2 ht3 hf0 hf1 hf2 hf3; generalize ((((w3.setCell ⟨b3, 0, none⟩ (.int .i64 0)).setCell ⟨b3, 1, none⟩ (.int .i64 (i : Int))).setCell ⟨b3, 2, none⟩ (.string (⟨#[]⟩ : ByteArray))).setCell ⟨b3, 3, none⟩ (.string (⟨#[]⟩ : ByteArray))) = w4 at HX4 HK4 K24 K34 ⊢
          have hc0 := HX4.out.s; have hc1 := HX4.out.i; go_wp2; refine wp_region_quiet_lit (by kernel_rfl) (by kernel_rfl) ?_
          repeat (go_big_quiet_step (fail))
          refine wpQuiet_nil ?_
          intro _ hw'; obtain ⟨nq, hw''⟩ := hw'; subst hw''; go_wp2; have HX5 : Aside0 (Lx (w4.drewN nq).drew g s i) := ⟨HX4.out⟩
          have HK5 : Aside0 (Lk g w (w4.drewN nq).drew) := ⟨(HK4.out.drewN nq).drew⟩
          have K25 : Aside0 (Tk (w4.drewN nq).drew b2 0 0 ⟨#[]⟩ ⟨#[]⟩) := ⟨K24.out⟩
          have K35 : Aside0 (Tk (w4.drewN nq).drew b3 0 (i : Int) ⟨#[]⟩ ⟨#[]⟩) := ⟨K34.out⟩
          clear HX4 HK4 K24 K34 hc0 hc1; refine start_ (n := 11) (S := (fun w' => w'.cell? ⟨g, 0, none⟩ = some (.string s) ∧ w'.cell? ⟨g, 1, none⟩ = some (.int .i64 (i : Int)))) (ds := []) #[false, false, false, false, false, false, false, false, false, false, false] (by kernel_rfl) rfl rfl ⟨HX5.out.s, HX5.out.i⟩ (fun hHeld => ?_)
          refine with_tabW lexer_word.tab4 lexer_word.bits4 (fun HT_ HW_ => ?_)
          generalize (w4.drewN nq).drew = w5 at HX5 HK5 K25 K35 hHeld ⊢
          refine pus_ 0 (some 21) #[true, false, false, false, false, false, false, false, false, false, false] rfl rfl HT_.out ?_
          refine pus_ 1 (some 22) #[true, true, false, false, false, false, false, false, false, false, false] rfl rfl HT_.out ?_
          refine pus_ 2 (some 23) #[true, true, true, false, false, false, false, false, false, false, false] rfl rfl HT_.out ?_
          refine tas_ 3 (some 24) #[true, true, true, true, false, false, false, false, false, false, false] rfl rfl HT_.out HW_.out hHeld ?_
          refine pus_ 4 (some 25) #[true, true, true, true, true, false, false, false, false, false, false] rfl rfl HT_.out ?_
          refine pus_ 5 (some 26) #[true, true, true, true, true, true, false, false, false, false, false] rfl rfl HT_.out ?_
          refine pus_ 6 (some 27) #[true, true, true, true, true, true, true, false, false, false, false] rfl rfl HT_.out ?_
          refine tas_ 7 (some 28) #[true, true, true, true, true, true, true, true, false, false, false] rfl rfl HT_.out HW_.out hHeld ?_
          refine pus_ 8 (some 29) #[true, true, true, true, true, true, true, true, true, false, false] rfl rfl HT_.out ?_
          refine one_ (i := 9) (N := (some 30)) #[true, true, true, true, true, true, true, true, true, true, false] rfl rfl (one_of HT_.out (by kernel_rfl)) (by decide) (fun K hK => ?_)
          refine goes_ Try.func55 (by kernel_rfl) rfl #[.string (s.extract i s.size)] (by rfl) rfl rfl goa_ ?_
          refine (number_Scan.calls _ n _ A1.out).mono ?_
          rintro e w6 ⟨rfl, hb⟩
          refine ⟨_, rfl, ?_⟩
          have HX := am_ (HX5.out.below hb); have HK := am_ (HK5.out.call hb); have K2 := am_ (K25.out.call hb); have K3 := am_ (K35.out.call hb); clear hb HX5 HK5 K25 K35; refine hK.out _ _ ⟨HX.out.s, HX.out.i⟩ (fun hHeld => ?_)
          clear hK K; refine norm_ (a' := ?_) ?_ ?_
          rotate_left
          ·show Act.put _ (some 30) _ = _
           simp only [Act.put, List.setIfInBounds_toArray, List.set_cons_zero, List.set_cons_succ, i64_w, i32_w]; rfl
          refine pus_ 10 (some 6) #[true, true, true, true, true, true, true, true, true, true, true] rfl rfl HT_.out ?_
          refine done_ (done_of HT_.out (by kernel_rfl)) ?_
          clear hHeld HT_ HW_; have hc0 := HX.out.s; have hc1 := HX.out.i; have hz1 := HX.out.fz; have ht0 := K3.out.c0; have ht1 := K3.out.c1; have ht2 := K3.out.c2; have ht3 := K3.out.c3; have hf0 := K3.out.fz 0; have hf1 := K3.out.fz 1; have hf2 := K3.out.fz 2; have hf3 := K3.out.fz 3; have hne := N2.out; have hne2 := N2.out.symm; have hne3 := N1.out; have hne4 := N1.out.symm; have hne5 := N3.out; have hne6 := N3.out.symm; go_wp2_with (first | (go_at_call 58; with_reducible refine (begins_calls k s g i HS.out HII.out _ _ ?lx A2.out).mono ?_; (case lx => exact (by repeat (first | (with_reducible first | exact HX.out | apply Lx.drewN | apply Lx.drew | apply Lx.set | apply lx_far N2.out)))); rintro e wb ⟨rfl, hb⟩; have HXn := am_ (Lx.below (by repeat (first | (with_reducible first | exact HX.out | apply Lx.drewN | apply Lx.drew | apply Lx.set | apply lx_far N2.out))) hb); have HKn := am_ (Lk.call (by repeat (first | (with_reducible first | exact HK.out | apply Lk.drewN | apply Lk.drew | apply Lk.set | apply lk_setN HB3.out))) hb); have K2n := am_ (Tk.call (by repeat (first | (with_reducible first | exact K2.out | apply Tk.drewN | apply Tk.drew | apply tk_far N1.out.symm | apply tk_far N3.out))) hb); have K3n := am_ (Tk.call (by repeat (first | (with_reducible first | exact K3.out | apply Tk.drewN | apply Tk.drew | apply tk_far N2.out.symm))) hb); clear hb; clear HX HK K2 K3; have HX := HXn; have HK := HKn; have K2 := K2n; have K3 := K3n; clear HXn HKn K2n K3n; have hc0 := HX.out.s; have hc1 := HX.out.i; have hz1 := HX.out.fz; have ht0 := K3.out.c0; have ht1 := K3.out.c1; have ht2 := K3.out.c2; have ht3 := K3.out.c3; have hf0 := K3.out.fz 0; have hf1 := K3.out.fz 1; have hf2 := K3.out.fz 2; have hf3 := K3.out.fz 3; have hr0 := K2.out.c0; have hr1 := K2.out.c1; have hr2 := K2.out.c2; have hr3 := K2.out.c3; have hs0 := K2.out.fz 0; have hs1 := K2.out.fz 1; have hs2 := K2.out.fz 2; have hs3 := K2.out.fz 3) | (go_at_call 61; with_reducible refine (quoted_calls k s g i _ _ HS.out HLT.out _ ?lx A4.out).mono ?_; (case lx => exact (by repeat (first | (with_reducible first | exact HX.out | apply Lx.drewN | apply Lx.drew | apply Lx.set | apply lx_far N2.out)))); rintro e wd ⟨rfl, hx, hk⟩; rw [HTX.out]; have HXn := am_ hx; have HKn := am_ (Lk.trans (by repeat (first | (with_reducible first | exact HK.out | apply Lk.drewN | apply Lk.drew | apply Lk.set | apply lk_setN HB3.out))) hk); have K2n := am_ (Tk.lk (by repeat (first | (with_reducible first | exact K2.out | apply Tk.drewN | apply Tk.drew | apply tk_far N1.out.symm | apply tk_far N3.out))) hk N1.out.symm); have K3n := am_ (Tk.lk (by repeat (first | (with_reducible first | exact K3.out | apply Tk.drewN | apply Tk.drew | apply tk_far N2.out.symm))) hk N2.out.symm); clear hx hk; clear HX HK K2 K3; have HX := HXn; have HK := HKn; have K2 := K2n; have K3 := K3n; clear HXn HKn K2n K3n; have hc0 := HX.out.s; have hc1 := HX.out.i; have hz1 := HX.out.fz; have ht0 := K3.out.c0; have ht1 := K3.out.c1; have ht2 := K3.out.c2; have ht3 := K3.out.c3; have hf0 := K3.out.fz 0; have hf1 := K3.out.fz 1; have hf2 := K3.out.fz 2; have hf3 := K3.out.fz 3; have hr0 := K2.out.c0; have hr1 := K2.out.c1; have hr2 := K2.out.c2; have hr3 := K2.out.c3; have hs0 := K2.out.fz 0; have hs1 := K2.out.fz 1; have hs2 := K2.out.fz 2; have hs3 := K2.out.fz 3))
          refine bodyPost_ret (results_cell_row rfl _ _ b2 43 #[.int .i64 6, .int .i64 (i : Int), .string x, .string (⟨#[]⟩ : ByteArray)] (0, 0) _ rfl (show _ from Tk.set3 (Tk.set2 (Tk.set1 (Tk.set0 (by repeat (first | (with_reducible first | exact K2.out | apply Tk.drewN | apply Tk.drew | apply tk_far N1.out.symm | apply tk_far N3.out))) _) _) _) _) huT rfl (by kernel_rfl)) rfl ?_
          exact ⟨rfl, Lx.far (Lx.far (Lx.far (Lx.far (by repeat (first | (with_reducible first | exact HX.out | apply Lx.drewN | apply Lx.drew | apply Lx.set | apply lx_far N2.out))) N1.out _ _) N1.out _ _) N1.out _ _) N1.out _ _, Lk.setN (Lk.setN (Lk.setN (Lk.setN (by repeat (first | (with_reducible first | exact HK.out | apply Lk.drewN | apply Lk.drew | apply Lk.set | apply lk_setN HB3.out))) HS2.out _ _) HS2.out _ _) HS2.out _ _) HS2.out _ _⟩
        rw [if_neg h4] at hf; cases hf
      rw [if_neg h3] at hf; obtain ⟨q, hq, hf⟩ := bs_ hf; have A3 := am_ hq; clear hq; by_cases h4 : q ≥ 0
      · rw [if_pos h4] at hf
        have p3 : (bt s (i : Nat) == 34) = false := by simpa using (fun e => h3 (Or.inl e))
        have p4 : (bt s (i : Nat) == 39) = false := by simpa using (fun e => h3 (Or.inr e))
        have p5 : decide (q ≥ 0) = true := dt_ h4; have p6 : decide (0 ≤ q) = true := dt_ h4; have hwi1 : wrap64 ((i : Int) + 1) = ((i + 1 : Nat) : Int) := by have := HLT.out; have := HS.out; unfold wrap64; omega
        obtain ⟨m, hm⟩ : ∃ m, i + 1 = m := ⟨_, rfl⟩
        rw [hm] at hwi1 hf; have hwi2 : IntKind.i64.wrap ((i : Int) + 1) = (m : Int) := by rw [i64_w]; exact hwi1
        have q6 : ((i : Int) ≤ (m : Int)) = True := eq_true (by omega); have q7 : ((m : Int) ≤ (s.size : Int)) = True := eq_true (by have := HLT.out; omega); have hxs : (s.extract i m).size = 1 := by rw [ByteArray.size_extract]; have := HLT.out; omega
        obtain ⟨x, hx⟩ : ∃ x : ByteArray, s.extract i m = x := ⟨_, rfl⟩
        rw [hx] at hf hxs; have p8 : decide ((x.size : Int) > 64) = false := df_ (by omega); have p9 : decide (64 < (x.size : Int)) = false := df_ (by omega); clear h3 h4 hm hxs; obtain ⟨rfl, rfl, rfl, rfl⟩ : (7 : Int) = kd ∧ x = tx ∧ (⟨#[]⟩ : ByteArray) = nm ∧ m = j := by
          have h := si_ hf; simp only [Prod.mk.injEq] at h; exact h
        clear hf; go_enter Try.func41, Try.ntmps41
        go_wp2_with (first | ((with_reducible refine gate_dst (N := 2) rfl ?_); (try (refine gate_guard (by rfl) ?_; dsimp only)); refine box_event ?hg (N := 2) ?hd (cs := #[.int .i64 0, .int .i64 0, .string (⟨#[]⟩ : ByteArray), .string (⟨#[]⟩ : ByteArray)]) (t := 43) ?hr ?_; (case hd => rfl); (case hg => rfl); (case hr => first | (go_simp; done) | (go_simp; rfl)); intro b2 hg w2 hbox hb; have HG2 := am_ hg; have K2 := am_ (show Tk w2 b2 0 0 ⟨#[]⟩ ⟨#[]⟩ from hbox); have HX2 := am_ (Lx.below HX.out hb); have HK2 := am_ (Lk.of_below (g := g) hb); clear hg hbox hb HX; have HX := HX2; have HK := HK2; clear HX2 HK2; have hc0 := HX.out.s; have hc1 := HX.out.i; have hz1 := HX.out.fz) | ((with_reducible refine gate_dst (N := 3) rfl ?_); (try (refine gate_guard (by rfl) ?_; dsimp only)); refine box_event ?hg (N := 3) ?hd (cs := #[.int .i64 0, .int .i64 0, .string (⟨#[]⟩ : ByteArray), .string (⟨#[]⟩ : ByteArray)]) (t := 43) ?hr ?_; (case hd => rfl); (case hg => rfl); (case hr => first | (go_simp; done) | (go_simp; rfl)); intro b3 hg w3 hbox hb; have HG3 := am_ hg; have K2L := am_ (Tk.lt K2.out); have K3 := am_ (show Tk w3 b3 0 0 ⟨#[]⟩ ⟨#[]⟩ from hbox); have HX2 := am_ (Lx.below HX.out hb); have HK2 := am_ (Lk.call HK.out hb); have K22 := am_ (Tk.call K2.out hb); clear hg hbox hb HX HK K2; have HX := HX2; have HK := HK2; have K2 := K22; clear HX2 HK2 K22; have ht0 := K3.out.c0; have ht1 := K3.out.c1; have ht2 := K3.out.c2; have ht3 := K3.out.c3; have hf0 := K3.out.fz 0; have hf1 := K3.out.fz 1; have hf2 := K3.out.fz 2; have hf3 := K3.out.fz 3))
        have HS2 := am_ (show w.heap.size ≤ b2 by rw [HG2.out]; exact Nat.le_refl _); have HS3 := am_ (show b2 < b3 by rw [HG3.out]; exact K2L.out); have N1 := am_ (show g ≠ b2 by have := HS2.out; have := HG.out; omega); have N2 := am_ (show g ≠ b3 by have := HS2.out; have := HS3.out; have := HG.out; omega); have N3 := am_ (show b2 ≠ b3 by have := HS3.out; omega); have HB3 := am_ (show w.heap.size ≤ b3 by have := HS2.out; have := HS3.out; omega); have HX4 : Aside0 (Lx ((((w3.setCell ⟨b3, 0, none⟩ (.int .i64 0)).setCell ⟨b3, 1, none⟩ (.int .i64 (i : Int))).setCell ⟨b3, 2, none⟩ (.string (⟨#[]⟩ : ByteArray))).setCell ⟨b3, 3, none⟩ (.string (⟨#[]⟩ : ByteArray))) g s i) := ⟨Lx.far (Lx.far (Lx.far (Lx.far HX.out N2.out _ _) N2.out _ _) N2.out _ _) N2.out _ _⟩
        have HK4 : Aside0 (Lk g w ((((w3.setCell ⟨b3, 0, none⟩ (.int .i64 0)).setCell ⟨b3, 1, none⟩ (.int .i64 (i : Int))).setCell ⟨b3, 2, none⟩ (.string (⟨#[]⟩ : ByteArray))).setCell ⟨b3, 3, none⟩ (.string (⟨#[]⟩ : ByteArray)))) := ⟨Lk.setN (Lk.setN (Lk.setN (Lk.setN HK.out HB3.out _ _) HB3.out _ _) HB3.out _ _) HB3.out _ _⟩
        have K24 : Aside0 (Tk ((((w3.setCell ⟨b3, 0, none⟩ (.int .i64 0)).setCell ⟨b3, 1, none⟩ (.int .i64 (i : Int))).setCell ⟨b3, 2, none⟩ (.string (⟨#[]⟩ : ByteArray))).setCell ⟨b3, 3, none⟩ (.string (⟨#[]⟩ : ByteArray))) b2 0 0 ⟨#[]⟩ ⟨#[]⟩) := ⟨Tk.far (Tk.far (Tk.far (Tk.far K2.out N3.out _ _) N3.out _ _) N3.out _ _) N3.out _ _⟩
        have K34 : Aside0 (Tk ((((w3.setCell ⟨b3, 0, none⟩ (.int .i64 0)).setCell ⟨b3, 1, none⟩ (.int .i64 (i : Int))).setCell ⟨b3, 2, none⟩ (.string (⟨#[]⟩ : ByteArray))).setCell ⟨b3, 3, none⟩ (.string (⟨#[]⟩ : ByteArray))) b3 0 (i : Int) ⟨#[]⟩ ⟨#[]⟩) := ⟨Tk.set3 (Tk.set2 (Tk.set1 (Tk.set0 K3.out _) _) _) _⟩
        clear HX HK K2 K3 hc0 hc1 hz1 ht0 ht1 ht2 ht3 hf0 hf1 hf2 hf3; generalize ((((w3.setCell ⟨b3, 0, none⟩ (.int .i64 0)).setCell ⟨b3, 1, none⟩ (.int .i64 (i : Int))).setCell ⟨b3, 2, none⟩ (.string (⟨#[]⟩ : ByteArray))).setCell ⟨b3, 3, none⟩ (.string (⟨#[]⟩ : ByteArray))) = w4 at HX4 HK4 K24 K34 ⊢
        have hc0 := HX4.out.s; have hc1 := HX4.out.i; go_wp2; refine wp_region_quiet_lit (by kernel_rfl) (by kernel_rfl) ?_
        repeat (go_big_quiet_step (fail))
        refine wpQuiet_nil ?_
        intro _ hw'; obtain ⟨nq, hw''⟩ := hw'; subst hw''; go_wp2; have HX5 : Aside0 (Lx (w4.drewN nq).drew g s i) := ⟨HX4.out⟩
        have HK5 : Aside0 (Lk g w (w4.drewN nq).drew) := ⟨(HK4.out.drewN nq).drew⟩
        have K25 : Aside0 (Tk (w4.drewN nq).drew b2 0 0 ⟨#[]⟩ ⟨#[]⟩) := ⟨K24.out⟩
        have K35 : Aside0 (Tk (w4.drewN nq).drew b3 0 (i : Int) ⟨#[]⟩ ⟨#[]⟩) := ⟨K34.out⟩
        clear HX4 HK4 K24 K34 hc0 hc1; refine start_ (n := 11) (S := (fun w' => w'.cell? ⟨g, 0, none⟩ = some (.string s) ∧ w'.cell? ⟨g, 1, none⟩ = some (.int .i64 (i : Int)))) (ds := []) #[false, false, false, false, false, false, false, false, false, false, false] (by kernel_rfl) rfl rfl ⟨HX5.out.s, HX5.out.i⟩ (fun hHeld => ?_)
        refine with_tabW lexer_word.tab4 lexer_word.bits4 (fun HT_ HW_ => ?_)
        generalize (w4.drewN nq).drew = w5 at HX5 HK5 K25 K35 hHeld ⊢
        refine pus_ 0 (some 21) #[true, false, false, false, false, false, false, false, false, false, false] rfl rfl HT_.out ?_
        refine pus_ 1 (some 22) #[true, true, false, false, false, false, false, false, false, false, false] rfl rfl HT_.out ?_
        refine pus_ 2 (some 23) #[true, true, true, false, false, false, false, false, false, false, false] rfl rfl HT_.out ?_
        refine tas_ 3 (some 24) #[true, true, true, true, false, false, false, false, false, false, false] rfl rfl HT_.out HW_.out hHeld ?_
        refine pus_ 4 (some 25) #[true, true, true, true, true, false, false, false, false, false, false] rfl rfl HT_.out ?_
        refine pus_ 5 (some 26) #[true, true, true, true, true, true, false, false, false, false, false] rfl rfl HT_.out ?_
        refine pus_ 6 (some 27) #[true, true, true, true, true, true, true, false, false, false, false] rfl rfl HT_.out ?_
        refine tas_ 7 (some 28) #[true, true, true, true, true, true, true, true, false, false, false] rfl rfl HT_.out HW_.out hHeld ?_
        refine pus_ 8 (some 29) #[true, true, true, true, true, true, true, true, true, false, false] rfl rfl HT_.out ?_
        refine one_ (i := 9) (N := (some 30)) #[true, true, true, true, true, true, true, true, true, true, false] rfl rfl (one_of HT_.out (by kernel_rfl)) (by decide) (fun K hK => ?_)
        refine goes_ Try.func55 (by kernel_rfl) rfl #[.string (s.extract i s.size)] (by rfl) rfl rfl goa_ ?_
        refine (number_Scan.calls _ n _ A1.out).mono ?_
        rintro e w6 ⟨rfl, hb⟩
        refine ⟨_, rfl, ?_⟩
        have HX := am_ (HX5.out.below hb); have HK := am_ (HK5.out.call hb); have K2 := am_ (K25.out.call hb); have K3 := am_ (K35.out.call hb); clear hb HX5 HK5 K25 K35; refine hK.out _ _ ⟨HX.out.s, HX.out.i⟩ (fun hHeld => ?_)
        clear hK K; refine norm_ (a' := ?_) ?_ ?_
        rotate_left
        ·show Act.put _ (some 30) _ = _
         simp only [Act.put, List.setIfInBounds_toArray, List.set_cons_zero, List.set_cons_succ, i64_w, i32_w]; rfl
        refine pus_ 10 (some 6) #[true, true, true, true, true, true, true, true, true, true, true] rfl rfl HT_.out ?_
        refine done_ (done_of HT_.out (by kernel_rfl)) ?_
        clear hHeld HT_ HW_; have hc0 := HX.out.s; have hc1 := HX.out.i; have hz1 := HX.out.fz; have ht0 := K3.out.c0; have ht1 := K3.out.c1; have ht2 := K3.out.c2; have ht3 := K3.out.c3; have hf0 := K3.out.fz 0; have hf1 := K3.out.fz 1; have hf2 := K3.out.fz 2; have hf3 := K3.out.fz 3; have hne := N2.out; have hne2 := N2.out.symm; have hne3 := N1.out; have hne4 := N1.out.symm; have hne5 := N3.out; have hne6 := N3.out.symm; go_wp2_with (first | (go_at_call 58; with_reducible refine (begins_calls k s g i HS.out HII.out _ _ ?lx A2.out).mono ?_; (case lx => exact (by repeat (first | (with_reducible first | exact HX.out | apply Lx.drewN | apply Lx.drew | apply Lx.set | apply lx_far N2.out)))); rintro e wb ⟨rfl, hb⟩; have HXn := am_ (Lx.below (by repeat (first | (with_reducible first | exact HX.out | apply Lx.drewN | apply Lx.drew | apply Lx.set | apply lx_far N2.out))) hb); have HKn := am_ (Lk.call (by repeat (first | (with_reducible first | exact HK.out | apply Lk.drewN | apply Lk.drew | apply Lk.set | apply lk_setN HB3.out))) hb); have K2n := am_ (Tk.call (by repeat (first | (with_reducible first | exact K2.out | apply Tk.drewN | apply Tk.drew | apply tk_far N1.out.symm | apply tk_far N3.out))) hb); have K3n := am_ (Tk.call (by repeat (first | (with_reducible first | exact K3.out | apply Tk.drewN | apply Tk.drew | apply tk_far N2.out.symm))) hb); clear hb; clear HX HK K2 K3; have HX := HXn; have HK := HKn; have K2 := K2n; have K3 := K3n; clear HXn HKn K2n K3n; have hc0 := HX.out.s; have hc1 := HX.out.i; have hz1 := HX.out.fz; have ht0 := K3.out.c0; have ht1 := K3.out.c1; have ht2 := K3.out.c2; have ht3 := K3.out.c3; have hf0 := K3.out.fz 0; have hf1 := K3.out.fz 1; have hf2 := K3.out.fz 2; have hf3 := K3.out.fz 3; have hr0 := K2.out.c0; have hr1 := K2.out.c1; have hr2 := K2.out.c2; have hr3 := K2.out.c3; have hs0 := K2.out.fz 0; have hs1 := K2.out.fz 1; have hs2 := K2.out.fz 2; have hs3 := K2.out.fz 3) | (go_at_call 45; refine (strings_IndexByte.calls _ _ _ _ A3.out).mono ?_; rintro e wq ⟨rfl, ⟨nx, rfl⟩⟩))
        go_region
        go_wp2; refine bodyPost_ret (results_cell_row rfl _ _ b2 43 #[.int .i64 7, .int .i64 (i : Int), .string x, .string (⟨#[]⟩ : ByteArray)] (0, 0) _ rfl (show _ from Tk.set3 (Tk.set2 (Tk.set1 (Tk.set0 (by repeat (first | (with_reducible first | exact K2.out | apply Tk.drewN | apply Tk.drew | apply tk_far N1.out.symm | apply tk_far N3.out))) _) _) _) _) huT rfl (by kernel_rfl)) rfl ?_
        exact ⟨rfl, Lx.far (Lx.far (Lx.far (Lx.far (Lx.setv (by repeat (first | (with_reducible first | exact HX.out | apply Lx.drewN | apply Lx.drew | apply Lx.set | apply lx_far N2.out))) (by first | with_reducible rfl | with_reducible exact hwi1)) N1.out _ _) N1.out _ _) N1.out _ _) N1.out _ _, Lk.setN (Lk.setN (Lk.setN (Lk.setN (by repeat (first | (with_reducible first | exact HK.out | apply Lk.drewN | apply Lk.drew | apply Lk.set | apply lk_setN HB3.out))) HS2.out _ _) HS2.out _ _) HS2.out _ _) HS2.out _ _⟩
      rw [if_neg h4] at hf; cases hf
    rw [if_pos rfl] at hf; obtain ⟨⟨l, e⟩, ht, hf⟩ := bs_ hf; have A4 := am_ ht; clear ht; try dsimp only at hf
    by_cases h3 : l.length ≤ 64 ∧ e ≤ s.size
    · rw [if_pos h3] at hf
      obtain ⟨p, hp, hf⟩ := bs_ hf; have A5 := am_ hp; clear hp; obtain ⟨x, hx⟩ : ∃ x : ByteArray, (⟨l.toArray⟩ : ByteArray) = x := ⟨_, rfl⟩
      have HTX := am_ hx; have hxs : x.size ≤ 64 := by
        rw [← hx]; show l.toArray.size ≤ 64
        rw [List.size_toArray]; exact h3.1
      have p8 : decide ((x.size : Int) > 64) = false := df_ (by omega); have p9 : decide (64 < (x.size : Int)) = false := df_ (by omega); have HE := am_ h3.2; have HWE := am_ (show IntKind.i64.wrap (e : Int) = (e : Int) from wrapE e 0 (by have := HE.out; have := HS.out; omega)); have hwe1 : wrap64 ((e : Int) + 1) = ((e + 1 : Nat) : Int) := by have := HE.out; have := HS.out; unfold wrap64; omega
      rw [hx] at hf; clear h3 hxs hx; cases p
      · rw [if_neg (by decide)] at hf
        obtain ⟨rfl, rfl, rfl, rfl⟩ : (1 : Int) = kd ∧ x = tx ∧ (⟨#[]⟩ : ByteArray) = nm ∧ e = j := by
          have h := si_ hf; simp only [Prod.mk.injEq] at h; exact h
        clear hf; go_enter Try.func41, Try.ntmps41
        go_wp2_with (first | ((with_reducible refine gate_dst (N := 2) rfl ?_); (try (refine gate_guard (by rfl) ?_; dsimp only)); refine box_event ?hg (N := 2) ?hd (cs := #[.int .i64 0, .int .i64 0, .string (⟨#[]⟩ : ByteArray), .string (⟨#[]⟩ : ByteArray)]) (t := 43) ?hr ?_; (case hd => rfl); (case hg => rfl); (case hr => first | (go_simp; done) | (go_simp; rfl)); intro b2 hg w2 hbox hb; have HG2 := am_ hg; have K2 := am_ (show Tk w2 b2 0 0 ⟨#[]⟩ ⟨#[]⟩ from hbox); have HX2 := am_ (Lx.below HX.out hb); have HK2 := am_ (Lk.of_below (g := g) hb); clear hg hbox hb HX; have HX := HX2; have HK := HK2; clear HX2 HK2; have hc0 := HX.out.s; have hc1 := HX.out.i; have hz1 := HX.out.fz) | ((with_reducible refine gate_dst (N := 3) rfl ?_); (try (refine gate_guard (by rfl) ?_; dsimp only)); refine box_event ?hg (N := 3) ?hd (cs := #[.int .i64 0, .int .i64 0, .string (⟨#[]⟩ : ByteArray), .string (⟨#[]⟩ : ByteArray)]) (t := 43) ?hr ?_; (case hd => rfl); (case hg => rfl); (case hr => first | (go_simp; done) | (go_simp; rfl)); intro b3 hg w3 hbox hb; have HG3 := am_ hg; have K2L := am_ (Tk.lt K2.out); have K3 := am_ (show Tk w3 b3 0 0 ⟨#[]⟩ ⟨#[]⟩ from hbox); have HX2 := am_ (Lx.below HX.out hb); have HK2 := am_ (Lk.call HK.out hb); have K22 := am_ (Tk.call K2.out hb); clear hg hbox hb HX HK K2; have HX := HX2; have HK := HK2; have K2 := K22; clear HX2 HK2 K22; have ht0 := K3.out.c0; have ht1 := K3.out.c1; have ht2 := K3.out.c2; have ht3 := K3.out.c3; have hf0 := K3.out.fz 0; have hf1 := K3.out.fz 1; have hf2 := K3.out.fz 2; have hf3 := K3.out.fz 3))
        have HS2 := am_ (show w.heap.size ≤ b2 by rw [HG2.out]; exact Nat.le_refl _); have HS3 := am_ (show b2 < b3 by rw [HG3.out]; exact K2L.out); have N1 := am_ (show g ≠ b2 by have := HS2.out; have := HG.out; omega); have N2 := am_ (show g ≠ b3 by have := HS2.out; have := HS3.out; have := HG.out; omega); have N3 := am_ (show b2 ≠ b3 by have := HS3.out; omega); have HB3 := am_ (show w.heap.size ≤ b3 by have := HS2.out; have := HS3.out; omega); have HX4 : Aside0 (Lx ((((w3.setCell ⟨b3, 0, none⟩ (.int .i64 0)).setCell ⟨b3, 1, none⟩ (.int .i64 (i : Int))).setCell ⟨b3, 2, none⟩ (.string (⟨#[]⟩ : ByteArray))).setCell ⟨b3, 3, none⟩ (.string (⟨#[]⟩ : ByteArray))) g s i) := ⟨Lx.far (Lx.far (Lx.far (Lx.far HX.out N2.out _ _) N2.out _ _) N2.out _ _) N2.out _ _⟩
        have HK4 : Aside0 (Lk g w ((((w3.setCell ⟨b3, 0, none⟩ (.int .i64 0)).setCell ⟨b3, 1, none⟩ (.int .i64 (i : Int))).setCell ⟨b3, 2, none⟩ (.string (⟨#[]⟩ : ByteArray))).setCell ⟨b3, 3, none⟩ (.string (⟨#[]⟩ : ByteArray)))) := ⟨Lk.setN (Lk.setN (Lk.setN (Lk.setN HK.out HB3.out _ _) HB3.out _ _) HB3.out _ _) HB3.out _ _⟩
        have K24 : Aside0 (Tk ((((w3.setCell ⟨b3, 0, none⟩ (.int .i64 0)).setCell ⟨b3, 1, none⟩ (.int .i64 (i : Int))).setCell ⟨b3, 2, none⟩ (.string (⟨#[]⟩ : ByteArray))).setCell ⟨b3, 3, none⟩ (.string (⟨#[]⟩ : ByteArray))) b2 0 0 ⟨#[]⟩ ⟨#[]⟩) := ⟨Tk.far (Tk.far (Tk.far (Tk.far K2.out N3.out _ _) N3.out _ _) N3.out _ _) N3.out _ _⟩
        have K34 : Aside0 (Tk ((((w3.setCell ⟨b3, 0, none⟩ (.int .i64 0)).setCell ⟨b3, 1, none⟩ (.int .i64 (i : Int))).setCell ⟨b3, 2, none⟩ (.string (⟨#[]⟩ : ByteArray))).setCell ⟨b3, 3, none⟩ (.string (⟨#[]⟩ : ByteArray))) b3 0 (i : Int) ⟨#[]⟩ ⟨#[]⟩) := ⟨Tk.set3 (Tk.set2 (Tk.set1 (Tk.set0 K3.out _) _) _) _⟩
        clear HX HK K2 K3 hc0 hc1 hz1 ht0 ht1 ht2 ht3 hf0 hf1 hf2 hf3; generalize ((((w3.setCell ⟨b3, 0, none⟩ (.int .i64 0)).setCell ⟨b3, 1, none⟩ (.int .i64 (i : Int))).setCell ⟨b3, 2, none⟩ (.string (⟨#[]⟩ : ByteArray))).setCell ⟨b3, 3, none⟩ (.string (⟨#[]⟩ : ByteArray))) = w4 at HX4 HK4 K24 K34 ⊢
        have hc0 := HX4.out.s; have hc1 := HX4.out.i; go_wp2; refine wp_region_quiet_lit (by kernel_rfl) (by kernel_rfl) ?_
        repeat (go_big_quiet_step (fail))
        refine wpQuiet_nil ?_
        intro _ hw'; obtain ⟨nq, hw''⟩ := hw'; subst hw''; go_wp2; have HX5 : Aside0 (Lx (w4.drewN nq).drew g s i) := ⟨HX4.out⟩
        have HK5 : Aside0 (Lk g w (w4.drewN nq).drew) := ⟨(HK4.out.drewN nq).drew⟩
        have K25 : Aside0 (Tk (w4.drewN nq).drew b2 0 0 ⟨#[]⟩ ⟨#[]⟩) := ⟨K24.out⟩
        have K35 : Aside0 (Tk (w4.drewN nq).drew b3 0 (i : Int) ⟨#[]⟩ ⟨#[]⟩) := ⟨K34.out⟩
        clear HX4 HK4 K24 K34 hc0 hc1; refine start_ (n := 11) (S := (fun w' => w'.cell? ⟨g, 0, none⟩ = some (.string s) ∧ w'.cell? ⟨g, 1, none⟩ = some (.int .i64 (i : Int)))) (ds := []) #[false, false, false, false, false, false, false, false, false, false, false] (by kernel_rfl) rfl rfl ⟨HX5.out.s, HX5.out.i⟩ (fun hHeld => ?_)
        refine with_tabW lexer_word.tab4 lexer_word.bits4 (fun HT_ HW_ => ?_)
        generalize (w4.drewN nq).drew = w5 at HX5 HK5 K25 K35 hHeld ⊢
        refine pus_ 0 (some 21) #[true, false, false, false, false, false, false, false, false, false, false] rfl rfl HT_.out ?_
        refine pus_ 1 (some 22) #[true, true, false, false, false, false, false, false, false, false, false] rfl rfl HT_.out ?_
        refine pus_ 2 (some 23) #[true, true, true, false, false, false, false, false, false, false, false] rfl rfl HT_.out ?_
        refine tas_ 3 (some 24) #[true, true, true, true, false, false, false, false, false, false, false] rfl rfl HT_.out HW_.out hHeld ?_
        refine pus_ 4 (some 25) #[true, true, true, true, true, false, false, false, false, false, false] rfl rfl HT_.out ?_
        refine pus_ 5 (some 26) #[true, true, true, true, true, true, false, false, false, false, false] rfl rfl HT_.out ?_
        refine pus_ 6 (some 27) #[true, true, true, true, true, true, true, false, false, false, false] rfl rfl HT_.out ?_
        refine tas_ 7 (some 28) #[true, true, true, true, true, true, true, true, false, false, false] rfl rfl HT_.out HW_.out hHeld ?_
        refine pus_ 8 (some 29) #[true, true, true, true, true, true, true, true, true, false, false] rfl rfl HT_.out ?_
        refine one_ (i := 9) (N := (some 30)) #[true, true, true, true, true, true, true, true, true, true, false] rfl rfl (one_of HT_.out (by kernel_rfl)) (by decide) (fun K hK => ?_)
        refine goes_ Try.func55 (by kernel_rfl) rfl #[.string (s.extract i s.size)] (by rfl) rfl rfl goa_ ?_
        refine (number_Scan.calls _ n _ A1.out).mono ?_
        rintro e w6 ⟨rfl, hb⟩
        refine ⟨_, rfl, ?_⟩
        have HX := am_ (HX5.out.below hb); have HK := am_ (HK5.out.call hb); have K2 := am_ (K25.out.call hb); have K3 := am_ (K35.out.call hb); clear hb HX5 HK5 K25 K35; refine hK.out _ _ ⟨HX.out.s, HX.out.i⟩ (fun hHeld => ?_)
        clear hK K; refine norm_ (a' := ?_) ?_ ?_
        rotate_left
        ·show Act.put _ (some 30) _ = _
         simp only [Act.put, List.setIfInBounds_toArray, List.set_cons_zero, List.set_cons_succ, i64_w, i32_w]; rfl
        refine pus_ 10 (some 6) #[true, true, true, true, true, true, true, true, true, true, true] rfl rfl HT_.out ?_
        refine done_ (done_of HT_.out (by kernel_rfl)) ?_
        clear hHeld HT_ HW_; have hc0 := HX.out.s; have hc1 := HX.out.i; have hz1 := HX.out.fz; have ht0 := K3.out.c0; have ht1 := K3.out.c1; have ht2 := K3.out.c2; have ht3 := K3.out.c3; have hf0 := K3.out.fz 0; have hf1 := K3.out.fz 1; have hf2 := K3.out.fz 2; have hf3 := K3.out.fz 3; have hne := N2.out; have hne2 := N2.out.symm; have hne3 := N1.out; have hne4 := N1.out.symm; have hne5 := N3.out; have hne6 := N3.out.symm; go_wp2_with (first | (go_at_call 58; with_reducible refine (begins_calls k s g i HS.out HII.out _ _ ?lx A2.out).mono ?_; (case lx => exact (by repeat (first | (with_reducible first | exact HX.out | apply Lx.drewN | apply Lx.drew | apply Lx.set | apply lx_far N2.out)))); rintro e wb ⟨rfl, hb⟩; have HXn := am_ (Lx.below (by repeat (first | (with_reducible first | exact HX.out | apply Lx.drewN | apply Lx.drew | apply Lx.set | apply lx_far N2.out))) hb); have HKn := am_ (Lk.call (by repeat (first | (with_reducible first | exact HK.out | apply Lk.drewN | apply Lk.drew | apply Lk.set | apply lk_setN HB3.out))) hb); have K2n := am_ (Tk.call (by repeat (first | (with_reducible first | exact K2.out | apply Tk.drewN | apply Tk.drew | apply tk_far N1.out.symm | apply tk_far N3.out))) hb); have K3n := am_ (Tk.call (by repeat (first | (with_reducible first | exact K3.out | apply Tk.drewN | apply Tk.drew | apply tk_far N2.out.symm))) hb); clear hb; clear HX HK K2 K3; have HX := HXn; have HK := HKn; have K2 := K2n; have K3 := K3n; clear HXn HKn K2n K3n; have hc0 := HX.out.s; have hc1 := HX.out.i; have hz1 := HX.out.fz; have ht0 := K3.out.c0; have ht1 := K3.out.c1; have ht2 := K3.out.c2; have ht3 := K3.out.c3; have hf0 := K3.out.fz 0; have hf1 := K3.out.fz 1; have hf2 := K3.out.fz 2; have hf3 := K3.out.fz 3; have hr0 := K2.out.c0; have hr1 := K2.out.c1; have hr2 := K2.out.c2; have hr3 := K2.out.c3; have hs0 := K2.out.fz 0; have hs1 := K2.out.fz 1; have hs2 := K2.out.fz 2; have hs3 := K2.out.fz 3) | (go_at_call 59; with_reducible refine (ident_calls k s g i _ _ HS.out HII.out _ ?lx A4.out).mono ?_; (case lx => exact (by repeat (first | (with_reducible first | exact HX.out | apply Lx.drewN | apply Lx.drew | apply Lx.set | apply lx_far N2.out)))); rintro e wd ⟨rfl, hx, hk⟩; rw [HTX.out]; have HXn := am_ hx; have HKn := am_ (Lk.trans (by repeat (first | (with_reducible first | exact HK.out | apply Lk.drewN | apply Lk.drew | apply Lk.set | apply lk_setN HB3.out))) hk); have K2n := am_ (Tk.lk (by repeat (first | (with_reducible first | exact K2.out | apply Tk.drewN | apply Tk.drew | apply tk_far N1.out.symm | apply tk_far N3.out))) hk N1.out.symm); have K3n := am_ (Tk.lk (by repeat (first | (with_reducible first | exact K3.out | apply Tk.drewN | apply Tk.drew | apply tk_far N2.out.symm))) hk N2.out.symm); clear hx hk; clear HX HK K2 K3; have HX := HXn; have HK := HKn; have K2 := K2n; have K3 := K3n; clear HXn HKn K2n K3n; have hc0 := HX.out.s; have hc1 := HX.out.i; have hz1 := HX.out.fz; have ht0 := K3.out.c0; have ht1 := K3.out.c1; have ht2 := K3.out.c2; have ht3 := K3.out.c3; have hf0 := K3.out.fz 0; have hf1 := K3.out.fz 1; have hf2 := K3.out.fz 2; have hf3 := K3.out.fz 3; have hr0 := K2.out.c0; have hr1 := K2.out.c1; have hr2 := K2.out.c2; have hr3 := K2.out.c3; have hs0 := K2.out.fz 0; have hs1 := K2.out.fz 1; have hs2 := K2.out.fz 2; have hs3 := K2.out.fz 3) | (go_at_call 56; with_reducible refine (is_paren0 s g e e HS.out HWE.out _ _ ?lx A5.out).mono ?_; (case lx => exact (by repeat (first | (with_reducible first | exact HX.out | apply Lx.drewN | apply Lx.drew | apply Lx.set | apply lx_far N2.out)))); rintro e wi ⟨rfl, ⟨ni, rfl⟩⟩))
        refine bodyPost_ret (results_cell_row rfl _ _ b2 43 #[.int .i64 1, .int .i64 (i : Int), .string x, .string (⟨#[]⟩ : ByteArray)] (0, 0) _ rfl (show _ from Tk.set3 (Tk.set2 (Tk.set1 (Tk.set0 (by repeat (first | (with_reducible first | exact K2.out | apply Tk.drewN | apply Tk.drew | apply tk_far N1.out.symm | apply tk_far N3.out))) _) _) _) _) huT rfl (by kernel_rfl)) rfl ?_
        exact ⟨rfl, Lx.far (Lx.far (Lx.far (Lx.far (by repeat (first | (with_reducible first | exact HX.out | apply Lx.drewN | apply Lx.drew | apply Lx.set | apply lx_far N2.out))) N1.out _ _) N1.out _ _) N1.out _ _) N1.out _ _, Lk.setN (Lk.setN (Lk.setN (Lk.setN (by repeat (first | (with_reducible first | exact HK.out | apply Lk.drewN | apply Lk.drew | apply Lk.set | apply lk_setN HB3.out))) HS2.out _ _) HS2.out _ _) HS2.out _ _) HS2.out _ _⟩
      rw [if_pos rfl] at hf; obtain ⟨rfl, rfl, rfl, rfl⟩ : (2 : Int) = kd ∧ x = tx ∧ (⟨#[]⟩ : ByteArray) = nm ∧ e + 1 = j := by
        have h := si_ hf; simp only [Prod.mk.injEq] at h; exact h
      clear hf; go_enter Try.func41, Try.ntmps41
      go_wp2_with (first | ((with_reducible refine gate_dst (N := 2) rfl ?_); (try (refine gate_guard (by rfl) ?_; dsimp only)); refine box_event ?hg (N := 2) ?hd (cs := #[.int .i64 0, .int .i64 0, .string (⟨#[]⟩ : ByteArray), .string (⟨#[]⟩ : ByteArray)]) (t := 43) ?hr ?_; (case hd => rfl); (case hg => rfl); (case hr => first | (go_simp; done) | (go_simp; rfl)); intro b2 hg w2 hbox hb; have HG2 := am_ hg; have K2 := am_ (show Tk w2 b2 0 0 ⟨#[]⟩ ⟨#[]⟩ from hbox); have HX2 := am_ (Lx.below HX.out hb); have HK2 := am_ (Lk.of_below (g := g) hb); clear hg hbox hb HX; have HX := HX2; have HK := HK2; clear HX2 HK2; have hc0 := HX.out.s; have hc1 := HX.out.i; have hz1 := HX.out.fz) | ((with_reducible refine gate_dst (N := 3) rfl ?_); (try (refine gate_guard (by rfl) ?_; dsimp only)); refine box_event ?hg (N := 3) ?hd (cs := #[.int .i64 0, .int .i64 0, .string (⟨#[]⟩ : ByteArray), .string (⟨#[]⟩ : ByteArray)]) (t := 43) ?hr ?_; (case hd => rfl); (case hg => rfl); (case hr => first | (go_simp; done) | (go_simp; rfl)); intro b3 hg w3 hbox hb; have HG3 := am_ hg; have K2L := am_ (Tk.lt K2.out); have K3 := am_ (show Tk w3 b3 0 0 ⟨#[]⟩ ⟨#[]⟩ from hbox); have HX2 := am_ (Lx.below HX.out hb); have HK2 := am_ (Lk.call HK.out hb); have K22 := am_ (Tk.call K2.out hb); clear hg hbox hb HX HK K2; have HX := HX2; have HK := HK2; have K2 := K22; clear HX2 HK2 K22; have ht0 := K3.out.c0; have ht1 := K3.out.c1; have ht2 := K3.out.c2; have ht3 := K3.out.c3; have hf0 := K3.out.fz 0; have hf1 := K3.out.fz 1; have hf2 := K3.out.fz 2; have hf3 := K3.out.fz 3))
      have HS2 := am_ (show w.heap.size ≤ b2 by rw [HG2.out]; exact Nat.le_refl _); have HS3 := am_ (show b2 < b3 by rw [HG3.out]; exact K2L.out); have N1 := am_ (show g ≠ b2 by have := HS2.out; have := HG.out; omega); have N2 := am_ (show g ≠ b3 by have := HS2.out; have := HS3.out; have := HG.out; omega); have N3 := am_ (show b2 ≠ b3 by have := HS3.out; omega); have HB3 := am_ (show w.heap.size ≤ b3 by have := HS2.out; have := HS3.out; omega); have HX4 : Aside0 (Lx ((((w3.setCell ⟨b3, 0, none⟩ (.int .i64 0)).setCell ⟨b3, 1, none⟩ (.int .i64 (i : Int))).setCell ⟨b3, 2, none⟩ (.string (⟨#[]⟩ : ByteArray))).setCell ⟨b3, 3, none⟩ (.string (⟨#[]⟩ : ByteArray))) g s i) := ⟨Lx.far (Lx.far (Lx.far (Lx.far HX.out N2.out _ _) N2.out _ _) N2.out _ _) N2.out _ _⟩
      have HK4 : Aside0 (Lk g w ((((w3.setCell ⟨b3, 0, none⟩ (.int .i64 0)).setCell ⟨b3, 1, none⟩ (.int .i64 (i : Int))).setCell ⟨b3, 2, none⟩ (.string (⟨#[]⟩ : ByteArray))).setCell ⟨b3, 3, none⟩ (.string (⟨#[]⟩ : ByteArray)))) := ⟨Lk.setN (Lk.setN (Lk.setN (Lk.setN HK.out HB3.out _ _) HB3.out _ _) HB3.out _ _) HB3.out _ _⟩
      have K24 : Aside0 (Tk ((((w3.setCell ⟨b3, 0, none⟩ (.int .i64 0)).setCell ⟨b3, 1, none⟩ (.int .i64 (i : Int))).setCell ⟨b3, 2, none⟩ (.string (⟨#[]⟩ : ByteArray))).setCell ⟨b3, 3, none⟩ (.string (⟨#[]⟩ : ByteArray))) b2 0 0 ⟨#[]⟩ ⟨#[]⟩) := ⟨Tk.far (Tk.far (Tk.far (Tk.far K2.out N3.out _ _) N3.out _ _) N3.out _ _) N3.out _ _⟩
      have K34 : Aside0 (Tk ((((w3.setCell ⟨b3, 0, none⟩ (.int .i64 0)).setCell ⟨b3, 1, none⟩ (.int .i64 (i : Int))).setCell ⟨b3, 2, none⟩ (.string (⟨#[]⟩ : ByteArray))).setCell ⟨b3, 3, none⟩ (.string (⟨#[]⟩ : ByteArray))) b3 0 (i : Int) ⟨#[]⟩ ⟨#[]⟩) := ⟨Tk.set3 (Tk.set2 (Tk.set1 (Tk.set0 K3.out _) _) _) _⟩
      clear HX HK K2 K3 hc0 hc1 hz1 ht0 ht1 ht2 ht3 hf0 hf1 hf2 hf3; generalize ((((w3.setCell ⟨b3, 0, none⟩ (.int .i64 0)).setCell ⟨b3, 1, none⟩ (.int .i64 (i : Int))).setCell ⟨b3, 2, none⟩ (.string (⟨#[]⟩ : ByteArray))).setCell ⟨b3, 3, none⟩ (.string (⟨#[]⟩ : ByteArray))) = w4 at HX4 HK4 K24 K34 ⊢
      have hc0 := HX4.out.s; have hc1 := HX4.out.i; go_wp2; refine wp_region_quiet_lit (by kernel_rfl) (by kernel_rfl) ?_
      repeat (go_big_quiet_step (fail))
      refine wpQuiet_nil ?_
      intro _ hw'; obtain ⟨nq, hw''⟩ := hw'; subst hw''; go_wp2; have HX5 : Aside0 (Lx (w4.drewN nq).drew g s i) := ⟨HX4.out⟩
      have HK5 : Aside0 (Lk g w (w4.drewN nq).drew) := ⟨(HK4.out.drewN nq).drew⟩
      have K25 : Aside0 (Tk (w4.drewN nq).drew b2 0 0 ⟨#[]⟩ ⟨#[]⟩) := ⟨K24.out⟩
      have K35 : Aside0 (Tk (w4.drewN nq).drew b3 0 (i : Int) ⟨#[]⟩ ⟨#[]⟩) := ⟨K34.out⟩
      clear HX4 HK4 K24 K34 hc0 hc1; refine start_ (n := 11) (S := (fun w' => w'.cell? ⟨g, 0, none⟩ = some (.string s) ∧ w'.cell? ⟨g, 1, none⟩ = some (.int .i64 (i : Int)))) (ds := []) #[false, false, false, false, false, false, false, false, false, false, false] (by kernel_rfl) rfl rfl ⟨HX5.out.s, HX5.out.i⟩ (fun hHeld => ?_)
      refine with_tabW lexer_word.tab4 lexer_word.bits4 (fun HT_ HW_ => ?_)
      generalize (w4.drewN nq).drew = w5 at HX5 HK5 K25 K35 hHeld ⊢
      refine pus_ 0 (some 21) #[true, false, false, false, false, false, false, false, false, false, false] rfl rfl HT_.out ?_
      refine pus_ 1 (some 22) #[true, true, false, false, false, false, false, false, false, false, false] rfl rfl HT_.out ?_
      refine pus_ 2 (some 23) #[true, true, true, false, false, false, false, false, false, false, false] rfl rfl HT_.out ?_
      refine tas_ 3 (some 24) #[true, true, true, true, false, false, false, false, false, false, false] rfl rfl HT_.out HW_.out hHeld ?_
      refine pus_ 4 (some 25) #[true, true, true, true, true, false, false, false, false, false, false] rfl rfl HT_.out ?_
      refine pus_ 5 (some 26) #[true, true, true, true, true, true, false, false, false, false, false] rfl rfl HT_.out ?_
      refine pus_ 6 (some 27) #[true, true, true, true, true, true, true, false, false, false, false] rfl rfl HT_.out ?_
      refine tas_ 7 (some 28) #[true, true, true, true, true, true, true, true, false, false, false] rfl rfl HT_.out HW_.out hHeld ?_
      refine pus_ 8 (some 29) #[true, true, true, true, true, true, true, true, true, false, false] rfl rfl HT_.out ?_
      refine one_ (i := 9) (N := (some 30)) #[true, true, true, true, true, true, true, true, true, true, false] rfl rfl (one_of HT_.out (by kernel_rfl)) (by decide) (fun K hK => ?_)
      refine goes_ Try.func55 (by kernel_rfl) rfl #[.string (s.extract i s.size)] (by rfl) rfl rfl goa_ ?_
      refine (number_Scan.calls _ n _ A1.out).mono ?_
      rintro e w6 ⟨rfl, hb⟩
      refine ⟨_, rfl, ?_⟩
      have HX := am_ (HX5.out.below hb); have HK := am_ (HK5.out.call hb); have K2 := am_ (K25.out.call hb); have K3 := am_ (K35.out.call hb); clear hb HX5 HK5 K25 K35; refine hK.out _ _ ⟨HX.out.s, HX.out.i⟩ (fun hHeld => ?_)
      clear hK K; refine norm_ (a' := ?_) ?_ ?_
      rotate_left
      ·show Act.put _ (some 30) _ = _
       simp only [Act.put, List.setIfInBounds_toArray, List.set_cons_zero, List.set_cons_succ, i64_w, i32_w]; rfl
      refine pus_ 10 (some 6) #[true, true, true, true, true, true, true, true, true, true, true] rfl rfl HT_.out ?_
      refine done_ (done_of HT_.out (by kernel_rfl)) ?_
      clear hHeld HT_ HW_; have hc0 := HX.out.s; have hc1 := HX.out.i; have hz1 := HX.out.fz; have ht0 := K3.out.c0; have ht1 := K3.out.c1; have ht2 := K3.out.c2; have ht3 := K3.out.c3; have hf0 := K3.out.fz 0; have hf1 := K3.out.fz 1; have hf2 := K3.out.fz 2; have hf3 := K3.out.fz 3; have hne := N2.out; have hne2 := N2.out.symm; have hne3 := N1.out; have hne4 := N1.out.symm; have hne5 := N3.out; have hne6 := N3.out.symm; go_wp2_with (first | (go_at_call 58; with_reducible refine (begins_calls k s g i HS.out HII.out _ _ ?lx A2.out).mono ?_; (case lx => exact (by repeat (first | (with_reducible first | exact HX.out | apply Lx.drewN | apply Lx.drew | apply Lx.set | apply lx_far N2.out)))); rintro e wb ⟨rfl, hb⟩; have HXn := am_ (Lx.below (by repeat (first | (with_reducible first | exact HX.out | apply Lx.drewN | apply Lx.drew | apply Lx.set | apply lx_far N2.out))) hb); have HKn := am_ (Lk.call (by repeat (first | (with_reducible first | exact HK.out | apply Lk.drewN | apply Lk.drew | apply Lk.set | apply lk_setN HB3.out))) hb); have K2n := am_ (Tk.call (by repeat (first | (with_reducible first | exact K2.out | apply Tk.drewN | apply Tk.drew | apply tk_far N1.out.symm | apply tk_far N3.out))) hb); have K3n := am_ (Tk.call (by repeat (first | (with_reducible first | exact K3.out | apply Tk.drewN | apply Tk.drew | apply tk_far N2.out.symm))) hb); clear hb; clear HX HK K2 K3; have HX := HXn; have HK := HKn; have K2 := K2n; have K3 := K3n; clear HXn HKn K2n K3n; have hc0 := HX.out.s; have hc1 := HX.out.i; have hz1 := HX.out.fz; have ht0 := K3.out.c0; have ht1 := K3.out.c1; have ht2 := K3.out.c2; have ht3 := K3.out.c3; have hf0 := K3.out.fz 0; have hf1 := K3.out.fz 1; have hf2 := K3.out.fz 2; have hf3 := K3.out.fz 3; have hr0 := K2.out.c0; have hr1 := K2.out.c1; have hr2 := K2.out.c2; have hr3 := K2.out.c3; have hs0 := K2.out.fz 0; have hs1 := K2.out.fz 1; have hs2 := K2.out.fz 2; have hs3 := K2.out.fz 3) | (go_at_call 59; with_reducible refine (ident_calls k s g i _ _ HS.out HII.out _ ?lx A4.out).mono ?_; (case lx => exact (by repeat (first | (with_reducible first | exact HX.out | apply Lx.drewN | apply Lx.drew | apply Lx.set | apply lx_far N2.out)))); rintro e wd ⟨rfl, hx, hk⟩; rw [HTX.out]; have HXn := am_ hx; have HKn := am_ (Lk.trans (by repeat (first | (with_reducible first | exact HK.out | apply Lk.drewN | apply Lk.drew | apply Lk.set | apply lk_setN HB3.out))) hk); have K2n := am_ (Tk.lk (by repeat (first | (with_reducible first | exact K2.out | apply Tk.drewN | apply Tk.drew | apply tk_far N1.out.symm | apply tk_far N3.out))) hk N1.out.symm); have K3n := am_ (Tk.lk (by repeat (first | (with_reducible first | exact K3.out | apply Tk.drewN | apply Tk.drew | apply tk_far N2.out.symm))) hk N2.out.symm); clear hx hk; clear HX HK K2 K3; have HX := HXn; have HK := HKn; have K2 := K2n; have K3 := K3n; clear HXn HKn K2n K3n; have hc0 := HX.out.s; have hc1 := HX.out.i; have hz1 := HX.out.fz; have ht0 := K3.out.c0; have ht1 := K3.out.c1; have ht2 := K3.out.c2; have ht3 := K3.out.c3; have hf0 := K3.out.fz 0; have hf1 := K3.out.fz 1; have hf2 := K3.out.fz 2; have hf3 := K3.out.fz 3; have hr0 := K2.out.c0; have hr1 := K2.out.c1; have hr2 := K2.out.c2; have hr3 := K2.out.c3; have hs0 := K2.out.fz 0; have hs1 := K2.out.fz 1; have hs2 := K2.out.fz 2; have hs3 := K2.out.fz 3) | (go_at_call 56; with_reducible refine (is_paren0 s g e e HS.out HWE.out _ _ ?lx A5.out).mono ?_; (case lx => exact (by repeat (first | (with_reducible first | exact HX.out | apply Lx.drewN | apply Lx.drew | apply Lx.set | apply lx_far N2.out)))); rintro e wi ⟨rfl, ⟨ni, rfl⟩⟩))
      refine bodyPost_ret (results_cell_row rfl _ _ b2 43 #[.int .i64 2, .int .i64 (i : Int), .string x, .string (⟨#[]⟩ : ByteArray)] (0, 0) _ rfl (show _ from Tk.set3 (Tk.set2 (Tk.set1 (Tk.set0 (by repeat (first | (with_reducible first | exact K2.out | apply Tk.drewN | apply Tk.drew | apply tk_far N1.out.symm | apply tk_far N3.out))) _) _) _) _) huT rfl (by kernel_rfl)) rfl ?_
      exact ⟨rfl, Lx.far (Lx.far (Lx.far (Lx.far (Lx.setv (by repeat (first | (with_reducible first | exact HX.out | apply Lx.drewN | apply Lx.drew | apply Lx.set | apply lx_far N2.out))) (by omega)) N1.out _ _) N1.out _ _) N1.out _ _) N1.out _ _, Lk.setN (Lk.setN (Lk.setN (Lk.setN (by repeat (first | (with_reducible first | exact HK.out | apply Lk.drewN | apply Lk.drew | apply Lk.set | apply lk_setN HB3.out))) HS2.out _ _) HS2.out _ _) HS2.out _ _) HS2.out _ _⟩
    rw [if_neg h3] at hf; cases hf
  rw [if_neg hlt] at hf; cases hf
end Go.Proofs.Ytofdhdafabmhmaa.Giv
end
