/- AreaTellsCardSaid, part 8 of 15: contracts of the program's functions, the words that they use, and the plain laws on what they compute. Conditions: none beyond what the statements say. -/
import Derived.Test.YtofdhdafabmhmaaGreatDoorKAt1
import Derived.Test.YtofdhdafabmhmaaGreatDoorKAt2
import Derived.Test.YtofdhdafabmhmaaGreatDoorKAt3
import Derived.Test.YtofdhdafabmhmaaGreatDoorKAt4
import Derived.Test.YtofdhdafabmhmaaGreatDoorKAt5
import Derived.BigRegion
import Derived.BigQuiet
import Derived.Deep.QuietTactic
import Derived.Test.YtofdhdafabmhmaaGreatDoorKAt6
import Derived.Tactics
import Derived.Tactics2
import Derived.Defers
import Derived.Recover
set_option linter.unusedVariables false
set_option linter.unusedSimpArgs false
section
namespace Go.Proofs.YtofdhdafabmhmaaGreatDoor.Giv
open Go.RowKit Go.Proofs.YtofdhdafabmhmaaGreatDoorW.PrintWords Go.Proofs.YtofdhdafabmhmaaGreatDoorW.PrintLast Go.Proofs.YtofdhdafabmhmaaGreatDoorW.PrintMore Go.Proofs.YtofdhdafabmhmaaGreatDoor.PAr
open Go.Proofs.YtofdhdafabmhmaaGreatDoor.Opn Go.BigFrame
/-- A word's block. -/
def Tk (W : World) (b : Nat) (k a : Int) (t n : ByteArray) : Prop := W.heap[b]? = some (.cells #[.int .i64 k, .int .i64 a, .string t, .string n] 62 (0, 0))
section
variable {W W' : World} {b g B : Nat} {k a : Int} {t n : ByteArray}
theorem Tk.c0 (h : Tk W b k a t n) : W.cell? ⟨b, 0, none⟩ = some (.int .i64 k) := (blk_cell h 0).trans rfl
theorem Tk.c1 (h : Tk W b k a t n) : W.cell? ⟨b, 1, none⟩ = some (.int .i64 a) := (blk_cell h 1).trans rfl
theorem Tk.c2 (h : Tk W b k a t n) : W.cell? ⟨b, 2, none⟩ = some (.string t) := (blk_cell h 2).trans rfl
theorem Tk.c3 (h : Tk W b k a t n) : W.cell? ⟨b, 3, none⟩ = some (.string n) := (blk_cell h 3).trans rfl
theorem Tk.fz (h : Tk W b k a t n) (i : Nat) : W.frozen? ⟨b, i, none⟩ = false := blk_frozen h i
theorem Tk.lt (h : Tk W b k a t n) : b < W.heap.size := (Array.getElem?_eq_some_iff.1 h).1
theorem Tk.drewN (h : Tk W b k a t n) (m : Nat) : Tk (W.drewN m) b k a t n := h
theorem Tk.drew (h : Tk W b k a t n) : Tk W.drew b k a t n := h
theorem Tk.call (h : Tk W b k a t n) (hb : Below W.heap.size W W') : Tk W' b k a t n := blk_below h hb
theorem Tk.lk (h : Tk W b k a t n) (hk : Lk g W W') (hg : b ≠ g) : Tk W' b k a t n := hk.at h hg
theorem Tk.far (h : Tk W b k a t n) (hg : b ≠ g) (o : Nat) (v : Value) : Tk (W.setCell ⟨g, o, none⟩ v) b k a t n := blk_far h (show b ≠ g from hg) _
theorem Tk.set0 (h : Tk W b k a t n) (v : Int) : Tk (W.setCell ⟨b, 0, none⟩ (.int .i64 v)) b v a t n := blk_put h 0 _ rfl
theorem Tk.set1 (h : Tk W b k a t n) (v : Int) : Tk (W.setCell ⟨b, 1, none⟩ (.int .i64 v)) b k v t n := blk_put h 1 _ rfl
theorem Tk.set2 (h : Tk W b k a t n) (v : ByteArray) : Tk (W.setCell ⟨b, 2, none⟩ (.string v)) b k a v n := blk_put h 2 _ rfl
theorem Tk.set3 (h : Tk W b k a t n) (v : ByteArray) : Tk (W.setCell ⟨b, 3, none⟩ (.string v)) b k a t v := blk_put h 3 _ rfl
theorem Lx.far {s : ByteArray} {i : Nat} (h : Lx W g s i) (hb : g ≠ b) (o : Nat) (v : Value) : Lx (W.setCell ⟨b, o, none⟩ v) g s i := blk_far h (show g ≠ b from hb) _
theorem tk_far (hg : b ≠ g) {o : Nat} {v : Value} (h : Tk W b k a t n) : Tk (W.setCell ⟨g, o, none⟩ v) b k a t n := h.far hg o v
theorem lx_far {s : ByteArray} {i : Nat} (hb : g ≠ b) {o : Nat} {v : Value} (h : Lx W g s i) : Lx (W.setCell ⟨b, o, none⟩ v) g s i := h.far hb o v
theorem Lk.setN {w : World} (h : Lk g w W) (hb : w.heap.size ≤ b) (o : Nat) (v : Value) : Lk g w (W.setCell ⟨b, o, none⟩ v) :=
  ⟨h.os, h.tape, h.output, by simpa [World.setCell] using h.size, fun j hj hg => (Below.heap_setCell W _ v j (show j ≠ b by omega)).trans (h.heap j hj hg)⟩
theorem lk_setN {w : World} (hb : w.heap.size ≤ b) {o : Nat} {v : Value} (h : Lk g w W) : Lk g w (W.setCell ⟨b, o, none⟩ v) := h.setN hb o v
end
/-- The next word: its kind, its meaning, its number, and where it ends (a string, what is wrong: none). -/
def wordF (k : Nat) (s : ByteArray) (i : Nat) : Option (Int × ByteArray × ByteArray × Nat) := if i < s.size then ((number_Scan.f (s.extract i s.size)).bind fun n =>
    if n > 0 then (if i + n.toNat ≤ s.size then ((isF token_lexer_word_1.f s (i + n.toNat)).bind fun p => if p = true then some (4, ⟨#[]⟩, s.extract i (i + n.toNat), i + n.toNat + 1)
      else ((begF k s (i + n.toNat)).bind fun b => if b = true then ((identF k s (i + n.toNat) []).bind fun t => if t.1.length ≤ 64 ∧ t.2 ≤ s.size then some (5, ⟨t.1.toArray⟩, s.extract i (i + n.toNat), t.2) else none) else some (3, ⟨#[]⟩, s.extract i (i + n.toNat), i + n.toNat))) else none)
    else ((begF k s i).bind fun b => if b = true then ((identF k s i []).bind fun t => if t.1.length ≤ 64 ∧ t.2 ≤ s.size then ((isF token_lexer_word_2.f s t.2).bind fun p => if p = true then some (2, ⟨t.1.toArray⟩, ⟨#[]⟩, t.2 + 1) else some (1, ⟨t.1.toArray⟩, ⟨#[]⟩, t.2)) else none)
      else (if bt s (i : Nat) = 34 ∨ bt s (i : Nat) = 39 then ((quotF k s (i + 1) [] (bt s (i : Nat))).bind fun t => if t.1.length ≤ 8192 ∧ t.2 ≤ s.size then some (6, ⟨t.1.toArray⟩, ⟨#[]⟩, t.2) else none) else ((strings_IndexByte.f (⟨#[44, 47, 58, 59, 123, 125, 91, 93, 40, 41]⟩ : ByteArray) (bt s (i : Nat))).bind fun q => if q ≥ 0 then some (7, s.extract i (i + 1), ⟨#[]⟩, i + 1) else none)))) else none
theorem wordF.mono : ∀ s i k, LeO (wordF k s i) (wordF (k + 1) s i) := by
  intro s i k
  unfold wordF
  repeat' first
      | (with_reducible exact begF.mono _ _ _)
      | (with_reducible exact identF.mono _ _ _ _)
      | (with_reducible exact quotF.mono _ _ _ _ _)
      | (with_reducible exact LeO.refl _)
      | (with_reducible exact LeO.none _)
      | (with_reducible refine LeO.ite ?_ ?_)
      | (with_reducible refine LeO.bind ?_ (fun _ => ?_))
def lexer_word.T4 : Bool × List (List Nat × List Nat) := (true, [([], []), ([0], [0]), ([1], [1]), ([2], [2]), ([], []), ([4], [4]), ([5], [5]), ([6], [6]), ([3, 7], [3, 7]), ([8], [8]), ([9, 9, 0, 1, 2, 3, 4, 5, 6, 7, 8, 9], [9])])
def lexer_word.B4 : List Nat := [0, 1, 3, 7, 0, 16, 48, 112, 255, 511, 1023]
theorem lexer_word.tab4 : rtab .any (opsOf Tryz.f85 4) = lexer_word.T4 := by kernel_rfl
theorem lexer_word.bits4 : waitsOk lexer_word.T4.2 lexer_word.B4 = true := by kernel_rfl
set_option maxHeartbeats 16000000 in
set_option maxRecDepth 100000 in
theorem word_calls (k : Nat) (s : ByteArray) (g i j : Nat) (kd : Int) (tx nm : ByteArray) (hs : s.size ≤ 140737488351232) (w : World) (h : Lx w g s i) (hf : wordF k s i = some (kd, tx, nm, j)) :
    Calls Tryz.prog 85 #[.pointer (some ⟨g, 0, none⟩)] w fun e w' => e = .returned (.agg #[.int .i64 kd, .int .i64 (i : Int), .string tx, .string nm]) ∧ Lx w' g s j ∧ Lk g w w' := by
  have hu := Tryz.underlying103
  have hut := Tryz.underlying9
  have huT := Tryz.underlying62
  have HS := Aside0.mk hs
  have HX := Aside0.mk h
  have HG := Aside0.mk (Array.getElem?_eq_some_iff.1 h).1
  clear h
  unfold wordF at hf
  by_cases hlt : i < s.size
  · rw [if_pos hlt] at hf
    obtain ⟨n, hn, hf⟩ := Option.bind_eq_some_iff.mp hf
    have A1 := Aside0.mk hn
    clear hn
    have q5 : ((i : Int) ≤ (s.size : Int)) = True := eq_true (by omega)
    have q0 : (0 ≤ (i : Int)) = True := eq_true (by omega)
    have q1 : ((i : Int) < (s.size : Int)) = True := eq_true (by omega)
    have q2 : decide ((i : Int) < (s.size : Int)) = true := decide_eq_true (by omega)
    have q3 : decide (i < s.size) = true := decide_eq_true hlt
    have q4 : (i < s.size) = True := eq_true hlt
    have hx : ∀ h : i < s.size, ((s[i].toNat : Nat) : Int) = bt s (i : Nat) := fun h => bt_at s (i : Int) (by simpa using h)
    have HLT := Aside0.mk hlt
    have HWI := Aside0.mk (show IntKind.i64.wrap (i : Int) = (i : Int) from wrapE i 0 (by omega))
    have HII := Aside0.mk (show i ≤ s.size by omega)
    by_cases h1 : n > 0
    · rw [if_pos h1] at hf
      have p1 : decide (n > 0) = true := decide_eq_true h1
      have p2 : decide (0 < n) = true := decide_eq_true h1
      by_cases h2 : i + n.toNat ≤ s.size
      · rw [if_pos h2] at hf
        obtain ⟨m, hm⟩ : ∃ m, i + n.toNat = m := ⟨_, rfl⟩
        have hwn : IntKind.i64.wrap ((i : Int) + n) = (m : Int) := by rw [i64_w]; unfold wrap64; omega
        have hwn2 : wrap64 ((i : Int) + n) = (m : Int) := by unfold wrap64; omega
        have q6 : ((i : Int) ≤ (m : Int)) = True := eq_true (by omega)
        have q7 : ((m : Int) ≤ (s.size : Int)) = True := eq_true (by omega)
        have q8 : (i ≤ m) = True := eq_true (by omega)
        have q9 : (m ≤ s.size) = True := eq_true (by omega)
        have HM := Aside0.mk (show m ≤ s.size by omega)
        rw [hm] at hf
        clear hlt hs h1 h2 hm
        go_enter Tryz.func85, Tryz.ntmps85
        go_wp2_with (first | ((with_reducible refine gate_dst (N := 2) rfl ?_); (try (refine gate_guard (by rfl) ?_; dsimp only)); refine box_event ?hg (N := 2) ?hd (cs := #[.int .i64 0, .int .i64 0, .string (⟨#[]⟩ : ByteArray), .string (⟨#[]⟩ : ByteArray)]) (t := 62) ?hr ?_; (case hd => rfl); (case hg => rfl); (case hr => first | (go_simp; done) | (go_simp; rfl)); intro b2 hg w2 hbox hb; have HG2 := Aside0.mk hg; have K2 := Aside0.mk (show Tk w2 b2 0 0 ⟨#[]⟩ ⟨#[]⟩ from hbox); have HX2 := Aside0.mk (Lx.below HX.out hb); have HK2 := Aside0.mk (Lk.of_below (g := g) hb); clear hg hbox hb HX; have HX := HX2; have HK := HK2; clear HX2 HK2; have hc0 := HX.out.s; have hc1 := HX.out.i; have hz1 := HX.out.fz) | ((with_reducible refine gate_dst (N := 3) rfl ?_); (try (refine gate_guard (by rfl) ?_; dsimp only)); refine box_event ?hg (N := 3) ?hd (cs := #[.int .i64 0, .int .i64 0, .string (⟨#[]⟩ : ByteArray), .string (⟨#[]⟩ : ByteArray)]) (t := 62) ?hr ?_; (case hd => rfl); (case hg => rfl); (case hr => first | (go_simp; done) | (go_simp; rfl)); intro b3 hg w3 hbox hb; have HG3 := Aside0.mk hg; have K2L := Aside0.mk (Tk.lt K2.out); have K3 := Aside0.mk (show Tk w3 b3 0 0 ⟨#[]⟩ ⟨#[]⟩ from hbox); have HX2 := Aside0.mk (Lx.below HX.out hb); have HK2 := Aside0.mk (Lk.call HK.out hb); have K22 := Aside0.mk (Tk.call K2.out hb); clear hg hbox hb HX HK K2; have HX := HX2; have HK := HK2; have K2 := K22; clear HX2 HK2 K22; have ht0 := K3.out.c0; have ht1 := K3.out.c1; have ht2 := K3.out.c2; have ht3 := K3.out.c3; have hf0 := K3.out.fz 0; have hf1 := K3.out.fz 1; have hf2 := K3.out.fz 2; have hf3 := K3.out.fz 3))
        have HS2 := Aside0.mk (show w.heap.size ≤ b2 by rw [HG2.out]; exact Nat.le_refl _)
        have HS3 := Aside0.mk (show b2 < b3 by rw [HG3.out]; exact K2L.out)
        have N1 := Aside0.mk (show g ≠ b2 by have := HS2.out; have := HG.out; omega)
        have N2 := Aside0.mk (show g ≠ b3 by have := HS2.out; have := HS3.out; have := HG.out; omega)
        have N3 := Aside0.mk (show b2 ≠ b3 by have := HS3.out; omega)
        have HB3 := Aside0.mk (show w.heap.size ≤ b3 by have := HS2.out; have := HS3.out; omega)
        have HX4 : Aside0 (Lx ((((w3.setCell ⟨b3, 0, none⟩ (.int .i64 0)).setCell ⟨b3, 1, none⟩ (.int .i64 (i : Int))).setCell ⟨b3, 2, none⟩ (.string (⟨#[]⟩ : ByteArray))).setCell ⟨b3, 3, none⟩ (.string (⟨#[]⟩ : ByteArray))) g s i) := ⟨Lx.far (Lx.far (Lx.far (Lx.far HX.out N2.out _ _) N2.out _ _) N2.out _ _) N2.out _ _⟩
        have HK4 : Aside0 (Lk g w ((((w3.setCell ⟨b3, 0, none⟩ (.int .i64 0)).setCell ⟨b3, 1, none⟩ (.int .i64 (i : Int))).setCell ⟨b3, 2, none⟩ (.string (⟨#[]⟩ : ByteArray))).setCell ⟨b3, 3, none⟩ (.string (⟨#[]⟩ : ByteArray)))) := ⟨Lk.setN (Lk.setN (Lk.setN (Lk.setN HK.out HB3.out _ _) HB3.out _ _) HB3.out _ _) HB3.out _ _⟩
        have K24 : Aside0 (Tk ((((w3.setCell ⟨b3, 0, none⟩ (.int .i64 0)).setCell ⟨b3, 1, none⟩ (.int .i64 (i : Int))).setCell ⟨b3, 2, none⟩ (.string (⟨#[]⟩ : ByteArray))).setCell ⟨b3, 3, none⟩ (.string (⟨#[]⟩ : ByteArray))) b2 0 0 ⟨#[]⟩ ⟨#[]⟩) := ⟨Tk.far (Tk.far (Tk.far (Tk.far K2.out N3.out _ _) N3.out _ _) N3.out _ _) N3.out _ _⟩
        have K34 : Aside0 (Tk ((((w3.setCell ⟨b3, 0, none⟩ (.int .i64 0)).setCell ⟨b3, 1, none⟩ (.int .i64 (i : Int))).setCell ⟨b3, 2, none⟩ (.string (⟨#[]⟩ : ByteArray))).setCell ⟨b3, 3, none⟩ (.string (⟨#[]⟩ : ByteArray))) b3 0 (i : Int) ⟨#[]⟩ ⟨#[]⟩) := ⟨Tk.set3 (Tk.set2 (Tk.set1 (Tk.set0 K3.out _) _) _) _⟩
        clear HX HK K2 K3 hc0 hc1 hz1 ht0 ht1 ht2 ht3 hf0 hf1 hf2 hf3
        generalize ((((w3.setCell ⟨b3, 0, none⟩ (.int .i64 0)).setCell ⟨b3, 1, none⟩ (.int .i64 (i : Int))).setCell ⟨b3, 2, none⟩ (.string (⟨#[]⟩ : ByteArray))).setCell ⟨b3, 3, none⟩ (.string (⟨#[]⟩ : ByteArray))) = w4 at HX4 HK4 K24 K34 ⊢
        have hc0 := HX4.out.s
        have hc1 := HX4.out.i
        go_wp2
        refine wp_region_quiet_lit (by kernel_rfl) (by kernel_rfl) ?_
        repeat (go_big_quiet_step (fail))
        refine wpQuiet_nil ?_
        intro _ hw'
        obtain ⟨nq, hw''⟩ := hw'
        subst hw''
        go_wp2
        have HX5 : Aside0 (Lx (w4.drewN nq).drew g s i) := ⟨HX4.out⟩
        have HK5 : Aside0 (Lk g w (w4.drewN nq).drew) := ⟨(HK4.out.drewN nq).drew⟩
        have K25 : Aside0 (Tk (w4.drewN nq).drew b2 0 0 ⟨#[]⟩ ⟨#[]⟩) := ⟨K24.out⟩
        have K35 : Aside0 (Tk (w4.drewN nq).drew b3 0 (i : Int) ⟨#[]⟩ ⟨#[]⟩) := ⟨K34.out⟩
        clear HX4 HK4 K24 K34 hc0 hc1
        refine start_ (n := 11) (S := (fun w' => w'.cell? ⟨g, 0, none⟩ = some (.string s) ∧ w'.cell? ⟨g, 1, none⟩ = some (.int .i64 (i : Int)))) (ds := []) #[false, false, false, false, false, false, false, false, false, false, false] (by kernel_rfl) rfl rfl ⟨HX5.out.s, HX5.out.i⟩ (fun hHeld => ?_)
        refine with_tabW lexer_word.tab4 lexer_word.bits4 (fun HT_ HW_ => ?_)
        generalize (w4.drewN nq).drew = w5 at HX5 HK5 K25 K35 hHeld ⊢
        refine pus_ 0 (some 21) #[true, false, false, false, false, false, false, false, false, false, false] rfl rfl HT_.out ?_
        refine pus_ 1 (some 22) #[true, true, false, false, false, false, false, false, false, false, false] rfl rfl HT_.out ?_
        refine pus_ 2 (some 23) #[true, true, true, false, false, false, false, false, false, false, false] rfl rfl HT_.out ?_
        refine tas_ 3 (some 24) #[true, true, true, true, false, false, false, false, false, false, false] rfl rfl HT_.out HW_.out hHeld ?_
        refine pus_ 4 (some 25) #[true, true, true, true, true, false, false, false, false, false, false] rfl rfl HT_.out ?_
        refine pus_ 5 (some 26) #[true, true, true, true, true, true, false, false, false, false, false] rfl rfl HT_.out ?_
        refine pus_ 6 (some 27) #[true, true, true, true, true, true, true, false, false, false, false] rfl rfl HT_.out ?_
        refine tas_ 7 (some 28) #[true, true, true, true, true, true, true, true, false, false, false] rfl rfl HT_.out HW_.out hHeld ?_
        refine pus_ 8 (some 29) #[true, true, true, true, true, true, true, true, true, false, false] rfl rfl HT_.out ?_
        refine one_ (i := 9) (N := (some 30)) #[true, true, true, true, true, true, true, true, true, true, false] rfl rfl (one_of HT_.out (by kernel_rfl)) (by decide) (fun K hK => ?_)
        refine goes_ Tryz.func101 (by kernel_rfl) rfl #[.string (s.extract i s.size)] (by rfl) rfl rfl goa_ ?_
        refine (number_Scan.calls _ n _ A1.out).mono ?_
        rintro e w6 ⟨rfl, hb⟩
        refine ⟨_, rfl, ?_⟩
        have HX := Aside0.mk (HX5.out.below hb)
        have HK := Aside0.mk (HK5.out.call hb)
        have K2 := Aside0.mk (K25.out.call hb)
        have K3 := Aside0.mk (K35.out.call hb)
        clear hb HX5 HK5 K25 K35
        refine hK.out _ _ ⟨HX.out.s, HX.out.i⟩ (fun hHeld => ?_)
        clear hK K
        refine norm_ (a' := ?_) ?_ ?_
        rotate_left
        ·show Act.put _ (some 30) _ = _
         simp only [Act.put, List.setIfInBounds_toArray, List.set_cons_zero, List.set_cons_succ, i64_w, i32_w]
         rfl
        refine pus_ 10 (some 6) #[true, true, true, true, true, true, true, true, true, true, true] rfl rfl HT_.out ?_
        refine done_ (done_of HT_.out (by kernel_rfl)) ?_
        clear hHeld HT_ HW_
        have hc0 := HX.out.s
        have hc1 := HX.out.i
        have hz1 := HX.out.fz
        have ht0 := K3.out.c0
        have ht1 := K3.out.c1
        have ht2 := K3.out.c2
        have ht3 := K3.out.c3
        have hf0 := K3.out.fz 0
        have hf1 := K3.out.fz 1
        have hf2 := K3.out.fz 2
        have hf3 := K3.out.fz 3
        have hne := N2.out
        have hne2 := N2.out.symm
        have hne3 := N1.out
        have hne4 := N1.out.symm
        have hne5 := N3.out
        have hne6 := N3.out.symm
        go_wp2
        go_region
        have HXn : Aside0 (Lx (((w6.setCell ⟨b3, 0, none⟩ (.int .i64 3)).setCell ⟨b3, 3, none⟩ (.string (s.extract i m))).drew) g s i) := ⟨(Lx.far (Lx.far HX.out N2.out _ _) N2.out _ _).drew⟩
        have HKn : Aside0 (Lk g w (((w6.setCell ⟨b3, 0, none⟩ (.int .i64 3)).setCell ⟨b3, 3, none⟩ (.string (s.extract i m))).drew)) := ⟨(Lk.setN (Lk.setN HK.out HB3.out _ _) HB3.out _ _).drew⟩
        have K2n : Aside0 (Tk (((w6.setCell ⟨b3, 0, none⟩ (.int .i64 3)).setCell ⟨b3, 3, none⟩ (.string (s.extract i m))).drew) b2 0 0 ⟨#[]⟩ ⟨#[]⟩) := ⟨(Tk.far (Tk.far K2.out N3.out _ _) N3.out _ _).drew⟩
        have K3n : Aside0 (Tk (((w6.setCell ⟨b3, 0, none⟩ (.int .i64 3)).setCell ⟨b3, 3, none⟩ (.string (s.extract i m))).drew) b3 3 (i : Int) ⟨#[]⟩ (s.extract i m)) := ⟨(Tk.set3 (Tk.set0 K3.out _) _).drew⟩
        clear HX HK K2 K3 hc0 hc1 hz1 ht0 ht1 ht2 ht3 hf0 hf1 hf2 hf3
        have HX := HXn
        have HK := HKn
        have K2 := K2n
        have K3 := K3n
        clear HXn HKn K2n K3n
        generalize (((w6.setCell ⟨b3, 0, none⟩ (.int .i64 3)).setCell ⟨b3, 3, none⟩ (.string (s.extract i m))).drew) = w7 at HX HK K2 K3 ⊢
        have hc0 := HX.out.s
        have hc1 := HX.out.i
        have hz1 := HX.out.fz
        have ht0 := K3.out.c0
        have ht1 := K3.out.c1
        have ht2 := K3.out.c2
        have ht3 := K3.out.c3
        have hf0 := K3.out.fz 0
        have hf1 := K3.out.fz 1
        have hf2 := K3.out.fz 2
        have hf3 := K3.out.fz 3
        have hr0 := K2.out.c0
        have hr1 := K2.out.c1
        have hr2 := K2.out.c2
        have hr3 := K2.out.c3
        have hs0 := K2.out.fz 0
        have hs1 := K2.out.fz 1
        have hs2 := K2.out.fz 2
        have hs3 := K2.out.fz 3
        have HWM := Aside0.mk (show IntKind.i64.wrap (m : Int) = (m : Int) from wrapE m 0 (by have := HM.out; have := HS.out; omega))
        obtain ⟨p, hp, hf⟩ := Option.bind_eq_some_iff.mp hf
        have A2 := Aside0.mk hp
        clear hp
        cases p
        · rw [if_neg (by decide)] at hf
          obtain ⟨b, hb, hf⟩ := Option.bind_eq_some_iff.mp hf
          have A3 := Aside0.mk hb
          clear hb
          cases b
          · rw [if_neg (by decide)] at hf
            obtain ⟨rfl, rfl, rfl, rfl⟩ : (3 : Int) = kd ∧ (⟨#[]⟩ : ByteArray) = tx ∧ s.extract i m = nm ∧ m = j := by
              have h := Option.some.inj hf
              simp only [Prod.mk.injEq] at h
              exact h
            clear hf
            go_wp2_with (first | (go_at_call 102; with_reducible refine (is_pct0 s g m m HS.out HWM.out _ _ ?lx A2.out).mono ?_; (case lx => exact (by repeat (first | (with_reducible first | exact HX.out | apply Lx.drewN | apply Lx.set)))); rintro e wi ⟨rfl, ⟨ni, rfl⟩⟩) | (go_at_call 104; with_reducible refine (begins_calls k s g m HS.out HM.out _ _ ?lx A3.out).mono ?_; (case lx => exact (by repeat (first | (with_reducible first | exact HX.out | apply Lx.drewN | apply Lx.drew | apply Lx.set | apply lx_far N2.out)))); rintro e wb ⟨rfl, hb⟩; have HXn := Aside0.mk (Lx.below (by repeat (first | (with_reducible first | exact HX.out | apply Lx.drewN | apply Lx.drew | apply Lx.set | apply lx_far N2.out))) hb); have HKn := Aside0.mk (Lk.call (by repeat (first | (with_reducible first | exact HK.out | apply Lk.drewN | apply Lk.drew | apply Lk.set | apply lk_setN HB3.out))) hb); have K2n := Aside0.mk (Tk.call (by repeat (first | (with_reducible first | exact K2.out | apply Tk.drewN | apply Tk.drew | apply tk_far N1.out.symm | apply tk_far N3.out))) hb); have K3n := Aside0.mk (Tk.call (by repeat (first | (with_reducible first | exact K3.out | apply Tk.drewN | apply Tk.drew | apply tk_far N2.out.symm))) hb); clear hb; clear HX HK K2 K3; have HX := HXn; have HK := HKn; have K2 := K2n; have K3 := K3n; clear HXn HKn K2n K3n; have hc0 := HX.out.s; have hc1 := HX.out.i; have hz1 := HX.out.fz; have ht0 := K3.out.c0; have ht1 := K3.out.c1; have ht2 := K3.out.c2; have ht3 := K3.out.c3; have hf0 := K3.out.fz 0; have hf1 := K3.out.fz 1; have hf2 := K3.out.fz 2; have hf3 := K3.out.fz 3; have hr0 := K2.out.c0; have hr1 := K2.out.c1; have hr2 := K2.out.c2; have hr3 := K2.out.c3; have hs0 := K2.out.fz 0; have hs1 := K2.out.fz 1; have hs2 := K2.out.fz 2; have hs3 := K2.out.fz 3))
            refine bodyPost_ret (results_cell_row rfl _ _ b2 62 #[.int .i64 3, .int .i64 (i : Int), .string (⟨#[]⟩ : ByteArray), .string (s.extract i m)] (0, 0) _ rfl (show _ from Tk.set3 (Tk.set2 (Tk.set1 (Tk.set0 (by repeat (first | (with_reducible first | exact K2.out | apply Tk.drewN | apply Tk.drew | apply tk_far N1.out.symm | apply tk_far N3.out))) _) _) _) _) huT rfl (by kernel_rfl)) rfl ?_
            exact ⟨rfl, Lx.far (Lx.far (Lx.far (Lx.far (by repeat (first | (with_reducible first | exact HX.out | apply Lx.drewN | apply Lx.drew | apply Lx.set | apply lx_far N2.out))) N1.out _ _) N1.out _ _) N1.out _ _) N1.out _ _, Lk.setN (Lk.setN (Lk.setN (Lk.setN (by repeat (first | (with_reducible first | exact HK.out | apply Lk.drewN | apply Lk.drew | apply Lk.set | apply lk_setN HB3.out))) HS2.out _ _) HS2.out _ _) HS2.out _ _) HS2.out _ _⟩
          · rw [if_pos rfl] at hf
            obtain ⟨⟨l, e⟩, ht, hf⟩ := Option.bind_eq_some_iff.mp hf
            have A4 := Aside0.mk ht
            clear ht
            try dsimp only at hf
            by_cases h3 : l.length ≤ 64 ∧ e ≤ s.size
            · rw [if_pos h3] at hf
              obtain ⟨x, hx⟩ : ∃ x : ByteArray, (⟨l.toArray⟩ : ByteArray) = x := ⟨_, rfl⟩
              have HTX := Aside0.mk hx
              have hxs : x.size ≤ 64 := by
                rw [← hx]
                show l.toArray.size ≤ 64
                rw [List.size_toArray]
                exact h3.1
              have p8 : decide ((x.size : Int) > 64) = false := decide_eq_false (by omega)
              have p9 : decide (64 < (x.size : Int)) = false := decide_eq_false (by omega)
              rw [hx] at hf
              clear h3 hxs hx
              obtain ⟨rfl, rfl, rfl, rfl⟩ : (5 : Int) = kd ∧ x = tx ∧ s.extract i m = nm ∧ e = j := by
                have h := Option.some.inj hf
                simp only [Prod.mk.injEq] at h
                exact h
              clear hf
              go_wp2_with (first | (go_at_call 102; with_reducible refine (is_pct0 s g m m HS.out HWM.out _ _ ?lx A2.out).mono ?_; (case lx => exact (by repeat (first | (with_reducible first | exact HX.out | apply Lx.drewN | apply Lx.set)))); rintro e wi ⟨rfl, ⟨ni, rfl⟩⟩) | (go_at_call 104; with_reducible refine (begins_calls k s g m HS.out HM.out _ _ ?lx A3.out).mono ?_; (case lx => exact (by repeat (first | (with_reducible first | exact HX.out | apply Lx.drewN | apply Lx.drew | apply Lx.set | apply lx_far N2.out)))); rintro e wb ⟨rfl, hb⟩; have HXn := Aside0.mk (Lx.below (by repeat (first | (with_reducible first | exact HX.out | apply Lx.drewN | apply Lx.drew | apply Lx.set | apply lx_far N2.out))) hb); have HKn := Aside0.mk (Lk.call (by repeat (first | (with_reducible first | exact HK.out | apply Lk.drewN | apply Lk.drew | apply Lk.set | apply lk_setN HB3.out))) hb); have K2n := Aside0.mk (Tk.call (by repeat (first | (with_reducible first | exact K2.out | apply Tk.drewN | apply Tk.drew | apply tk_far N1.out.symm | apply tk_far N3.out))) hb); have K3n := Aside0.mk (Tk.call (by repeat (first | (with_reducible first | exact K3.out | apply Tk.drewN | apply Tk.drew | apply tk_far N2.out.symm))) hb); clear hb; clear HX HK K2 K3; have HX := HXn; have HK := HKn; have K2 := K2n; have K3 := K3n; clear HXn HKn K2n K3n; have hc0 := HX.out.s; have hc1 := HX.out.i; have hz1 := HX.out.fz; have ht0 := K3.out.c0; have ht1 := K3.out.c1; have ht2 := K3.out.c2; have ht3 := K3.out.c3; have hf0 := K3.out.fz 0; have hf1 := K3.out.fz 1; have hf2 := K3.out.fz 2; have hf3 := K3.out.fz 3; have hr0 := K2.out.c0; have hr1 := K2.out.c1; have hr2 := K2.out.c2; have hr3 := K2.out.c3; have hs0 := K2.out.fz 0; have hs1 := K2.out.fz 1; have hs2 := K2.out.fz 2; have hs3 := K2.out.fz 3) | (go_at_call 105; with_reducible refine (ident_calls k s g m _ _ HS.out HM.out _ ?lx A4.out).mono ?_; (case lx => exact (by repeat (first | (with_reducible first | exact HX.out | apply Lx.drewN | apply Lx.drew | apply Lx.set | apply lx_far N2.out)))); rintro e wd ⟨rfl, hx, hk⟩; rw [HTX.out]; have HXn := Aside0.mk hx; have HKn := Aside0.mk (Lk.trans (by repeat (first | (with_reducible first | exact HK.out | apply Lk.drewN | apply Lk.drew | apply Lk.set | apply lk_setN HB3.out))) hk); have K2n := Aside0.mk (Tk.lk (by repeat (first | (with_reducible first | exact K2.out | apply Tk.drewN | apply Tk.drew | apply tk_far N1.out.symm | apply tk_far N3.out))) hk N1.out.symm); have K3n := Aside0.mk (Tk.lk (by repeat (first | (with_reducible first | exact K3.out | apply Tk.drewN | apply Tk.drew | apply tk_far N2.out.symm))) hk N2.out.symm); clear hx hk; clear HX HK K2 K3; have HX := HXn; have HK := HKn; have K2 := K2n; have K3 := K3n; clear HXn HKn K2n K3n; have hc0 := HX.out.s; have hc1 := HX.out.i; have hz1 := HX.out.fz; have ht0 := K3.out.c0; have ht1 := K3.out.c1; have ht2 := K3.out.c2; have ht3 := K3.out.c3; have hf0 := K3.out.fz 0; have hf1 := K3.out.fz 1; have hf2 := K3.out.fz 2; have hf3 := K3.out.fz 3; have hr0 := K2.out.c0; have hr1 := K2.out.c1; have hr2 := K2.out.c2; have hr3 := K2.out.c3; have hs0 := K2.out.fz 0; have hs1 := K2.out.fz 1; have hs2 := K2.out.fz 2; have hs3 := K2.out.fz 3))
              refine bodyPost_ret (results_cell_row rfl _ _ b2 62 #[.int .i64 5, .int .i64 (i : Int), .string x, .string (s.extract i m)] (0, 0) _ rfl (show _ from Tk.set3 (Tk.set2 (Tk.set1 (Tk.set0 (by repeat (first | (with_reducible first | exact K2.out | apply Tk.drewN | apply Tk.drew | apply tk_far N1.out.symm | apply tk_far N3.out))) _) _) _) _) huT rfl (by kernel_rfl)) rfl ?_
              exact ⟨rfl, Lx.far (Lx.far (Lx.far (Lx.far (by repeat (first | (with_reducible first | exact HX.out | apply Lx.drewN | apply Lx.drew | apply Lx.set | apply lx_far N2.out))) N1.out _ _) N1.out _ _) N1.out _ _) N1.out _ _, Lk.setN (Lk.setN (Lk.setN (Lk.setN (by repeat (first | (with_reducible first | exact HK.out | apply Lk.drewN | apply Lk.drew | apply Lk.set | apply lk_setN HB3.out))) HS2.out _ _) HS2.out _ _) HS2.out _ _) HS2.out _ _⟩
            · rw [if_neg h3] at hf
              cases hf
        · rw [if_pos rfl] at hf
          have hwm1 : wrap64 ((m : Int) + 1) = ((m + 1 : Nat) : Int) := by have := HM.out; have := HS.out; unfold wrap64; omega
          obtain ⟨rfl, rfl, rfl, rfl⟩ : (4 : Int) = kd ∧ (⟨#[]⟩ : ByteArray) = tx ∧ s.extract i m = nm ∧ m + 1 = j := by
            have h := Option.some.inj hf
            simp only [Prod.mk.injEq] at h
            exact h
          clear hf
          go_wp2_with (first | (go_at_call 102; with_reducible refine (is_pct0 s g m m HS.out HWM.out _ _ ?lx A2.out).mono ?_; (case lx => exact (by repeat (first | (with_reducible first | exact HX.out | apply Lx.drewN | apply Lx.set)))); rintro e wi ⟨rfl, ⟨ni, rfl⟩⟩))
          refine bodyPost_ret (results_cell_row rfl _ _ b2 62 #[.int .i64 4, .int .i64 (i : Int), .string (⟨#[]⟩ : ByteArray), .string (s.extract i m)] (0, 0) _ rfl (show _ from Tk.set3 (Tk.set2 (Tk.set1 (Tk.set0 (by repeat (first | (with_reducible first | exact K2.out | apply Tk.drewN | apply Tk.drew | apply tk_far N1.out.symm | apply tk_far N3.out))) _) _) _) _) huT rfl (by kernel_rfl)) rfl ?_
          exact ⟨rfl, Lx.far (Lx.far (Lx.far (Lx.far (Lx.setv (by repeat (first | (with_reducible first | exact HX.out | apply Lx.drewN | apply Lx.drew | apply Lx.set | apply lx_far N2.out))) (by omega)) N1.out _ _) N1.out _ _) N1.out _ _) N1.out _ _, Lk.setN (Lk.setN (Lk.setN (Lk.setN (by repeat (first | (with_reducible first | exact HK.out | apply Lk.drewN | apply Lk.drew | apply Lk.set | apply lk_setN HB3.out))) HS2.out _ _) HS2.out _ _) HS2.out _ _) HS2.out _ _⟩
      · rw [if_neg h2] at hf
        cases hf
    · rw [if_neg h1] at hf
      have p1 : decide (n > 0) = false := decide_eq_false h1
      have p2 : decide (0 < n) = false := decide_eq_false h1
      clear hlt hs h1
      obtain ⟨b, hb, hf⟩ := Option.bind_eq_some_iff.mp hf
      have A2 := Aside0.mk hb
      clear hb
      cases b
      · rw [if_neg (by decide)] at hf
        by_cases h3 : bt s (i : Nat) = 34 ∨ bt s (i : Nat) = 39
        · rw [if_pos h3] at hf
          obtain ⟨⟨l, e⟩, ht, hf⟩ := Option.bind_eq_some_iff.mp hf
          have A4 := Aside0.mk ht
          clear ht
          try dsimp only at hf
          by_cases h4 : l.length ≤ 8192 ∧ e ≤ s.size
          · rw [if_pos h4] at hf
            obtain ⟨x, hx⟩ : ∃ x : ByteArray, (⟨l.toArray⟩ : ByteArray) = x := ⟨_, rfl⟩
            have HTX := Aside0.mk hx
            have hxs : x.size ≤ 8192 := by
              rw [← hx]
              show l.toArray.size ≤ 8192
              rw [List.size_toArray]
              exact h4.1
            have p8 : decide ((x.size : Int) > 8192) = false := decide_eq_false (by omega)
            have p9 : decide (8192 < (x.size : Int)) = false := decide_eq_false (by omega)
            rw [hx] at hf
            clear hxs hx h4
            by_cases h34 : bt s (i : Nat) = 34
            · have p3 : (bt s (i : Nat) == 34) = true := beq_iff_eq.mpr h34
              clear h3 h34
              obtain ⟨rfl, rfl, rfl, rfl⟩ : (6 : Int) = kd ∧ x = tx ∧ (⟨#[]⟩ : ByteArray) = nm ∧ e = j := by
                have h := Option.some.inj hf
                simp only [Prod.mk.injEq] at h
                exact h
              clear hf
              go_enter Tryz.func85, Tryz.ntmps85
              go_wp2_with (first | ((with_reducible refine gate_dst (N := 2) rfl ?_); (try (refine gate_guard (by rfl) ?_; dsimp only)); refine box_event ?hg (N := 2) ?hd (cs := #[.int .i64 0, .int .i64 0, .string (⟨#[]⟩ : ByteArray), .string (⟨#[]⟩ : ByteArray)]) (t := 62) ?hr ?_; (case hd => rfl); (case hg => rfl); (case hr => first | (go_simp; done) | (go_simp; rfl)); intro b2 hg w2 hbox hb; have HG2 := Aside0.mk hg; have K2 := Aside0.mk (show Tk w2 b2 0 0 ⟨#[]⟩ ⟨#[]⟩ from hbox); have HX2 := Aside0.mk (Lx.below HX.out hb); have HK2 := Aside0.mk (Lk.of_below (g := g) hb); clear hg hbox hb HX; have HX := HX2; have HK := HK2; clear HX2 HK2; have hc0 := HX.out.s; have hc1 := HX.out.i; have hz1 := HX.out.fz) | ((with_reducible refine gate_dst (N := 3) rfl ?_); (try (refine gate_guard (by rfl) ?_; dsimp only)); refine box_event ?hg (N := 3) ?hd (cs := #[.int .i64 0, .int .i64 0, .string (⟨#[]⟩ : ByteArray), .string (⟨#[]⟩ : ByteArray)]) (t := 62) ?hr ?_; (case hd => rfl); (case hg => rfl); (case hr => first | (go_simp; done) | (go_simp; rfl)); intro b3 hg w3 hbox hb; have HG3 := Aside0.mk hg; have K2L := Aside0.mk (Tk.lt K2.out); have K3 := Aside0.mk (show Tk w3 b3 0 0 ⟨#[]⟩ ⟨#[]⟩ from hbox); have HX2 := Aside0.mk (Lx.below HX.out hb); have HK2 := Aside0.mk (Lk.call HK.out hb); have K22 := Aside0.mk (Tk.call K2.out hb); clear hg hbox hb HX HK K2; have HX := HX2; have HK := HK2; have K2 := K22; clear HX2 HK2 K22; have ht0 := K3.out.c0; have ht1 := K3.out.c1; have ht2 := K3.out.c2; have ht3 := K3.out.c3; have hf0 := K3.out.fz 0; have hf1 := K3.out.fz 1; have hf2 := K3.out.fz 2; have hf3 := K3.out.fz 3))
              have HS2 := Aside0.mk (show w.heap.size ≤ b2 by rw [HG2.out]; exact Nat.le_refl _)
              have HS3 := Aside0.mk (show b2 < b3 by rw [HG3.out]; exact K2L.out)
              have N1 := Aside0.mk (show g ≠ b2 by have := HS2.out; have := HG.out; omega)
              have N2 := Aside0.mk (show g ≠ b3 by have := HS2.out; have := HS3.out; have := HG.out; omega)
              have N3 := Aside0.mk (show b2 ≠ b3 by have := HS3.out; omega)
              have HB3 := Aside0.mk (show w.heap.size ≤ b3 by have := HS2.out; have := HS3.out; omega)
              have HX4 : Aside0 (Lx ((((w3.setCell ⟨b3, 0, none⟩ (.int .i64 0)).setCell ⟨b3, 1, none⟩ (.int .i64 (i : Int))).setCell ⟨b3, 2, none⟩ (.string (⟨#[]⟩ : ByteArray))).setCell ⟨b3, 3, none⟩ (.string (⟨#[]⟩ : ByteArray))) g s i) := ⟨Lx.far (Lx.far (Lx.far (Lx.far HX.out N2.out _ _) N2.out _ _) N2.out _ _) N2.out _ _⟩
              have HK4 : Aside0 (Lk g w ((((w3.setCell ⟨b3, 0, none⟩ (.int .i64 0)).setCell ⟨b3, 1, none⟩ (.int .i64 (i : Int))).setCell ⟨b3, 2, none⟩ (.string (⟨#[]⟩ : ByteArray))).setCell ⟨b3, 3, none⟩ (.string (⟨#[]⟩ : ByteArray)))) := ⟨Lk.setN (Lk.setN (Lk.setN (Lk.setN HK.out HB3.out _ _) HB3.out _ _) HB3.out _ _) HB3.out _ _⟩
              have K24 : Aside0 (Tk ((((w3.setCell ⟨b3, 0, none⟩ (.int .i64 0)).setCell ⟨b3, 1, none⟩ (.int .i64 (i : Int))).setCell ⟨b3, 2, none⟩ (.string (⟨#[]⟩ : ByteArray))).setCell ⟨b3, 3, none⟩ (.string (⟨#[]⟩ : ByteArray))) b2 0 0 ⟨#[]⟩ ⟨#[]⟩) := ⟨Tk.far (Tk.far (Tk.far (Tk.far K2.out N3.out _ _) N3.out _ _) N3.out _ _) N3.out _ _⟩
              have K34 : Aside0 (Tk ((((w3.setCell ⟨b3, 0, none⟩ (.int .i64 0)).setCell ⟨b3, 1, none⟩ (.int .i64 (i : Int))).setCell ⟨b3, 2, none⟩ (.string (⟨#[]⟩ : ByteArray))).setCell ⟨b3, 3, none⟩ (.string (⟨#[]⟩ : ByteArray))) b3 0 (i : Int) ⟨#[]⟩ ⟨#[]⟩) := ⟨Tk.set3 (Tk.set2 (Tk.set1 (Tk.set0 K3.out _) _) _) _⟩
              clear HX HK K2 K3 hc0 hc1 hz1 ht0 ht1 ht2 ht3 hf0 hf1 hf2 hf3
              generalize ((((w3.setCell ⟨b3, 0, none⟩ (.int .i64 0)).setCell ⟨b3, 1, none⟩ (.int .i64 (i : Int))).setCell ⟨b3, 2, none⟩ (.string (⟨#[]⟩ : ByteArray))).setCell ⟨b3, 3, none⟩ (.string (⟨#[]⟩ : ByteArray))) = w4 at HX4 HK4 K24 K34 ⊢
              have hc0 := HX4.out.s
              have hc1 := HX4.out.i
              go_wp2
              refine wp_region_quiet_lit (by kernel_rfl) (by kernel_rfl) ?_
              repeat (go_big_quiet_step (fail))
              refine wpQuiet_nil ?_
              intro _ hw'
              obtain ⟨nq, hw''⟩ := hw'
              subst hw''
              go_wp2
              have HX5 : Aside0 (Lx (w4.drewN nq).drew g s i) := ⟨HX4.out⟩
              have HK5 : Aside0 (Lk g w (w4.drewN nq).drew) := ⟨(HK4.out.drewN nq).drew⟩
              have K25 : Aside0 (Tk (w4.drewN nq).drew b2 0 0 ⟨#[]⟩ ⟨#[]⟩) := ⟨K24.out⟩
              have K35 : Aside0 (Tk (w4.drewN nq).drew b3 0 (i : Int) ⟨#[]⟩ ⟨#[]⟩) := ⟨K34.out⟩
              clear HX4 HK4 K24 K34 hc0 hc1
              refine start_ (n := 11) (S := (fun w' => w'.cell? ⟨g, 0, none⟩ = some (.string s) ∧ w'.cell? ⟨g, 1, none⟩ = some (.int .i64 (i : Int)))) (ds := []) #[false, false, false, false, false, false, false, false, false, false, false] (by kernel_rfl) rfl rfl ⟨HX5.out.s, HX5.out.i⟩ (fun hHeld => ?_)
              refine with_tabW lexer_word.tab4 lexer_word.bits4 (fun HT_ HW_ => ?_)
              generalize (w4.drewN nq).drew = w5 at HX5 HK5 K25 K35 hHeld ⊢
              refine pus_ 0 (some 21) #[true, false, false, false, false, false, false, false, false, false, false] rfl rfl HT_.out ?_
              refine pus_ 1 (some 22) #[true, true, false, false, false, false, false, false, false, false, false] rfl rfl HT_.out ?_
              refine pus_ 2 (some 23) #[true, true, true, false, false, false, false, false, false, false, false] rfl rfl HT_.out ?_
              refine tas_ 3 (some 24) #[true, true, true, true, false, false, false, false, false, false, false] rfl rfl HT_.out HW_.out hHeld ?_
              refine pus_ 4 (some 25) #[true, true, true, true, true, false, false, false, false, false, false] rfl rfl HT_.out ?_
              refine pus_ 5 (some 26) #[true, true, true, true, true, true, false, false, false, false, false] rfl rfl HT_.out ?_
              refine pus_ 6 (some 27) #[true, true, true, true, true, true, true, false, false, false, false] rfl rfl HT_.out ?_
              refine tas_ 7 (some 28) #[true, true, true, true, true, true, true, true, false, false, false] rfl rfl HT_.out HW_.out hHeld ?_
              refine pus_ 8 (some 29) #[true, true, true, true, true, true, true, true, true, false, false] rfl rfl HT_.out ?_
              refine one_ (i := 9) (N := (some 30)) #[true, true, true, true, true, true, true, true, true, true, false] rfl rfl (one_of HT_.out (by kernel_rfl)) (by decide) (fun K hK => ?_)
              refine goes_ Tryz.func101 (by kernel_rfl) rfl #[.string (s.extract i s.size)] (by rfl) rfl rfl goa_ ?_
              refine (number_Scan.calls _ n _ A1.out).mono ?_
              rintro e w6 ⟨rfl, hb⟩
              refine ⟨_, rfl, ?_⟩
              have HX := Aside0.mk (HX5.out.below hb)
              have HK := Aside0.mk (HK5.out.call hb)
              have K2 := Aside0.mk (K25.out.call hb)
              have K3 := Aside0.mk (K35.out.call hb)
              clear hb HX5 HK5 K25 K35
              refine hK.out _ _ ⟨HX.out.s, HX.out.i⟩ (fun hHeld => ?_)
              clear hK K
              refine norm_ (a' := ?_) ?_ ?_
              rotate_left
              ·show Act.put _ (some 30) _ = _
               simp only [Act.put, List.setIfInBounds_toArray, List.set_cons_zero, List.set_cons_succ, i64_w, i32_w]
               rfl
              refine pus_ 10 (some 6) #[true, true, true, true, true, true, true, true, true, true, true] rfl rfl HT_.out ?_
              refine done_ (done_of HT_.out (by kernel_rfl)) ?_
              clear hHeld HT_ HW_
              have hc0 := HX.out.s
              have hc1 := HX.out.i
              have hz1 := HX.out.fz
              have ht0 := K3.out.c0
              have ht1 := K3.out.c1
              have ht2 := K3.out.c2
              have ht3 := K3.out.c3
              have hf0 := K3.out.fz 0
              have hf1 := K3.out.fz 1
              have hf2 := K3.out.fz 2
              have hf3 := K3.out.fz 3
              have hne := N2.out
              have hne2 := N2.out.symm
              have hne3 := N1.out
              have hne4 := N1.out.symm
              have hne5 := N3.out
              have hne6 := N3.out.symm
              go_wp2_with (first | (go_at_call 104; with_reducible refine (begins_calls k s g i HS.out HII.out _ _ ?lx A2.out).mono ?_; (case lx => exact (by repeat (first | (with_reducible first | exact HX.out | apply Lx.drewN | apply Lx.drew | apply Lx.set | apply lx_far N2.out)))); rintro e wb ⟨rfl, hb⟩; have HXn := Aside0.mk (Lx.below (by repeat (first | (with_reducible first | exact HX.out | apply Lx.drewN | apply Lx.drew | apply Lx.set | apply lx_far N2.out))) hb); have HKn := Aside0.mk (Lk.call (by repeat (first | (with_reducible first | exact HK.out | apply Lk.drewN | apply Lk.drew | apply Lk.set | apply lk_setN HB3.out))) hb); have K2n := Aside0.mk (Tk.call (by repeat (first | (with_reducible first | exact K2.out | apply Tk.drewN | apply Tk.drew | apply tk_far N1.out.symm | apply tk_far N3.out))) hb); have K3n := Aside0.mk (Tk.call (by repeat (first | (with_reducible first | exact K3.out | apply Tk.drewN | apply Tk.drew | apply tk_far N2.out.symm))) hb); clear hb; clear HX HK K2 K3; have HX := HXn; have HK := HKn; have K2 := K2n; have K3 := K3n; clear HXn HKn K2n K3n; have hc0 := HX.out.s; have hc1 := HX.out.i; have hz1 := HX.out.fz; have ht0 := K3.out.c0; have ht1 := K3.out.c1; have ht2 := K3.out.c2; have ht3 := K3.out.c3; have hf0 := K3.out.fz 0; have hf1 := K3.out.fz 1; have hf2 := K3.out.fz 2; have hf3 := K3.out.fz 3; have hr0 := K2.out.c0; have hr1 := K2.out.c1; have hr2 := K2.out.c2; have hr3 := K2.out.c3; have hs0 := K2.out.fz 0; have hs1 := K2.out.fz 1; have hs2 := K2.out.fz 2; have hs3 := K2.out.fz 3) | (go_at_call 107; with_reducible refine (quoted_calls k s g i _ _ HS.out HLT.out _ ?lx A4.out).mono ?_; (case lx => exact (by repeat (first | (with_reducible first | exact HX.out | apply Lx.drewN | apply Lx.drew | apply Lx.set | apply lx_far N2.out)))); rintro e wd ⟨rfl, hx, hk⟩; rw [HTX.out]; have HXn := Aside0.mk hx; have HKn := Aside0.mk (Lk.trans (by repeat (first | (with_reducible first | exact HK.out | apply Lk.drewN | apply Lk.drew | apply Lk.set | apply lk_setN HB3.out))) hk); have K2n := Aside0.mk (Tk.lk (by repeat (first | (with_reducible first | exact K2.out | apply Tk.drewN | apply Tk.drew | apply tk_far N1.out.symm | apply tk_far N3.out))) hk N1.out.symm); have K3n := Aside0.mk (Tk.lk (by repeat (first | (with_reducible first | exact K3.out | apply Tk.drewN | apply Tk.drew | apply tk_far N2.out.symm))) hk N2.out.symm); clear hx hk; clear HX HK K2 K3; have HX := HXn; have HK := HKn; have K2 := K2n; have K3 := K3n; clear HXn HKn K2n K3n; have hc0 := HX.out.s; have hc1 := HX.out.i; have hz1 := HX.out.fz; have ht0 := K3.out.c0; have ht1 := K3.out.c1; have ht2 := K3.out.c2; have ht3 := K3.out.c3; have hf0 := K3.out.fz 0; have hf1 := K3.out.fz 1; have hf2 := K3.out.fz 2; have hf3 := K3.out.fz 3; have hr0 := K2.out.c0; have hr1 := K2.out.c1; have hr2 := K2.out.c2; have hr3 := K2.out.c3; have hs0 := K2.out.fz 0; have hs1 := K2.out.fz 1; have hs2 := K2.out.fz 2; have hs3 := K2.out.fz 3))
              refine bodyPost_ret (results_cell_row rfl _ _ b2 62 #[.int .i64 6, .int .i64 (i : Int), .string x, .string (⟨#[]⟩ : ByteArray)] (0, 0) _ rfl (show _ from Tk.set3 (Tk.set2 (Tk.set1 (Tk.set0 (by repeat (first | (with_reducible first | exact K2.out | apply Tk.drewN | apply Tk.drew | apply tk_far N1.out.symm | apply tk_far N3.out))) _) _) _) _) huT rfl (by kernel_rfl)) rfl ?_
              exact ⟨rfl, Lx.far (Lx.far (Lx.far (Lx.far (by repeat (first | (with_reducible first | exact HX.out | apply Lx.drewN | apply Lx.drew | apply Lx.set | apply lx_far N2.out))) N1.out _ _) N1.out _ _) N1.out _ _) N1.out _ _, Lk.setN (Lk.setN (Lk.setN (Lk.setN (by repeat (first | (with_reducible first | exact HK.out | apply Lk.drewN | apply Lk.drew | apply Lk.set | apply lk_setN HB3.out))) HS2.out _ _) HS2.out _ _) HS2.out _ _) HS2.out _ _⟩
            · have p3 : (bt s (i : Nat) == 34) = false := beq_eq_false_iff_ne.mpr h34
              have p4 : (bt s (i : Nat) == 39) = true := beq_iff_eq.mpr (h3.resolve_left h34)
              clear h3 h34
              obtain ⟨rfl, rfl, rfl, rfl⟩ : (6 : Int) = kd ∧ x = tx ∧ (⟨#[]⟩ : ByteArray) = nm ∧ e = j := by
                have h := Option.some.inj hf
                simp only [Prod.mk.injEq] at h
                exact h
              clear hf
              go_enter Tryz.func85, Tryz.ntmps85
              go_wp2_with (first | ((with_reducible refine gate_dst (N := 2) rfl ?_); (try (refine gate_guard (by rfl) ?_; dsimp only)); refine box_event ?hg (N := 2) ?hd (cs := #[.int .i64 0, .int .i64 0, .string (⟨#[]⟩ : ByteArray), .string (⟨#[]⟩ : ByteArray)]) (t := 62) ?hr ?_; (case hd => rfl); (case hg => rfl); (case hr => first | (go_simp; done) | (go_simp; rfl)); intro b2 hg w2 hbox hb; have HG2 := Aside0.mk hg; have K2 := Aside0.mk (show Tk w2 b2 0 0 ⟨#[]⟩ ⟨#[]⟩ from hbox); have HX2 := Aside0.mk (Lx.below HX.out hb); have HK2 := Aside0.mk (Lk.of_below (g := g) hb); clear hg hbox hb HX; have HX := HX2; have HK := HK2; clear HX2 HK2; have hc0 := HX.out.s; have hc1 := HX.out.i; have hz1 := HX.out.fz) | ((with_reducible refine gate_dst (N := 3) rfl ?_); (try (refine gate_guard (by rfl) ?_; dsimp only)); refine box_event ?hg (N := 3) ?hd (cs := #[.int .i64 0, .int .i64 0, .string (⟨#[]⟩ : ByteArray), .string (⟨#[]⟩ : ByteArray)]) (t := 62) ?hr ?_; (case hd => rfl); (case hg => rfl); (case hr => first | (go_simp; done) | (go_simp; rfl)); intro b3 hg w3 hbox hb; have HG3 := Aside0.mk hg; have K2L := Aside0.mk (Tk.lt K2.out); have K3 := Aside0.mk (show Tk w3 b3 0 0 ⟨#[]⟩ ⟨#[]⟩ from hbox); have HX2 := Aside0.mk (Lx.below HX.out hb); have HK2 := Aside0.mk (Lk.call HK.out hb); have K22 := Aside0.mk (Tk.call K2.out hb); clear hg hbox hb HX HK K2; have HX := HX2; have HK := HK2; have K2 := K22; clear HX2 HK2 K22; have ht0 := K3.out.c0; have ht1 := K3.out.c1; have ht2 := K3.out.c2; have ht3 := K3.out.c3; have hf0 := K3.out.fz 0; have hf1 := K3.out.fz 1; have hf2 := K3.out.fz 2; have hf3 := K3.out.fz 3))
              have HS2 := Aside0.mk (show w.heap.size ≤ b2 by rw [HG2.out]; exact Nat.le_refl _)
              have HS3 := Aside0.mk (show b2 < b3 by rw [HG3.out]; exact K2L.out)
              have N1 := Aside0.mk (show g ≠ b2 by have := HS2.out; have := HG.out; omega)
              have N2 := Aside0.mk (show g ≠ b3 by have := HS2.out; have := HS3.out; have := HG.out; omega)
              have N3 := Aside0.mk (show b2 ≠ b3 by have := HS3.out; omega)
              have HB3 := Aside0.mk (show w.heap.size ≤ b3 by have := HS2.out; have := HS3.out; omega)
              have HX4 : Aside0 (Lx ((((w3.setCell ⟨b3, 0, none⟩ (.int .i64 0)).setCell ⟨b3, 1, none⟩ (.int .i64 (i : Int))).setCell ⟨b3, 2, none⟩ (.string (⟨#[]⟩ : ByteArray))).setCell ⟨b3, 3, none⟩ (.string (⟨#[]⟩ : ByteArray))) g s i) := ⟨Lx.far (Lx.far (Lx.far (Lx.far HX.out N2.out _ _) N2.out _ _) N2.out _ _) N2.out _ _⟩
              have HK4 : Aside0 (Lk g w ((((w3.setCell ⟨b3, 0, none⟩ (.int .i64 0)).setCell ⟨b3, 1, none⟩ (.int .i64 (i : Int))).setCell ⟨b3, 2, none⟩ (.string (⟨#[]⟩ : ByteArray))).setCell ⟨b3, 3, none⟩ (.string (⟨#[]⟩ : ByteArray)))) := ⟨Lk.setN (Lk.setN (Lk.setN (Lk.setN HK.out HB3.out _ _) HB3.out _ _) HB3.out _ _) HB3.out _ _⟩
              have K24 : Aside0 (Tk ((((w3.setCell ⟨b3, 0, none⟩ (.int .i64 0)).setCell ⟨b3, 1, none⟩ (.int .i64 (i : Int))).setCell ⟨b3, 2, none⟩ (.string (⟨#[]⟩ : ByteArray))).setCell ⟨b3, 3, none⟩ (.string (⟨#[]⟩ : ByteArray))) b2 0 0 ⟨#[]⟩ ⟨#[]⟩) := ⟨Tk.far (Tk.far (Tk.far (Tk.far K2.out N3.out _ _) N3.out _ _) N3.out _ _) N3.out _ _⟩
              have K34 : Aside0 (Tk ((((w3.setCell ⟨b3, 0, none⟩ (.int .i64 0)).setCell ⟨b3, 1, none⟩ (.int .i64 (i : Int))).setCell ⟨b3, 2, none⟩ (.string (⟨#[]⟩ : ByteArray))).setCell ⟨b3, 3, none⟩ (.string (⟨#[]⟩ : ByteArray))) b3 0 (i : Int) ⟨#[]⟩ ⟨#[]⟩) := ⟨Tk.set3 (Tk.set2 (Tk.set1 (Tk.set0 K3.out _) _) _) _⟩
              clear HX HK K2 K3 hc0 hc1 hz1 ht0 ht1 ht2 ht3 hf0 hf1 hf2 hf3
              generalize ((((w3.setCell ⟨b3, 0, none⟩ (.int .i64 0)).setCell ⟨b3, 1, none⟩ (.int .i64 (i : Int))).setCell ⟨b3, 2, none⟩ (.string (⟨#[]⟩ : ByteArray))).setCell ⟨b3, 3, none⟩ (.string (⟨#[]⟩ : ByteArray))) = w4 at HX4 HK4 K24 K34 ⊢
              have hc0 := HX4.out.s
              have hc1 := HX4.out.i
              go_wp2
              refine wp_region_quiet_lit (by kernel_rfl) (by kernel_rfl) ?_
              repeat (go_big_quiet_step (fail))
              refine wpQuiet_nil ?_
              intro _ hw'
              obtain ⟨nq, hw''⟩ := hw'
              subst hw''
              go_wp2
              have HX5 : Aside0 (Lx (w4.drewN nq).drew g s i) := ⟨HX4.out⟩
              have HK5 : Aside0 (Lk g w (w4.drewN nq).drew) := ⟨(HK4.out.drewN nq).drew⟩
              have K25 : Aside0 (Tk (w4.drewN nq).drew b2 0 0 ⟨#[]⟩ ⟨#[]⟩) := ⟨K24.out⟩
              have K35 : Aside0 (Tk (w4.drewN nq).drew b3 0 (i : Int) ⟨#[]⟩ ⟨#[]⟩) := ⟨K34.out⟩
              clear HX4 HK4 K24 K34 hc0 hc1
              refine start_ (n := 11) (S := (fun w' => w'.cell? ⟨g, 0, none⟩ = some (.string s) ∧ w'.cell? ⟨g, 1, none⟩ = some (.int .i64 (i : Int)))) (ds := []) #[false, false, false, false, false, false, false, false, false, false, false] (by kernel_rfl) rfl rfl ⟨HX5.out.s, HX5.out.i⟩ (fun hHeld => ?_)
              refine with_tabW lexer_word.tab4 lexer_word.bits4 (fun HT_ HW_ => ?_)
              generalize (w4.drewN nq).drew = w5 at HX5 HK5 K25 K35 hHeld ⊢
              refine pus_ 0 (some 21) #[true, false, false, false, false, false, false, false, false, false, false] rfl rfl HT_.out ?_
              refine pus_ 1 (some 22) #[true, true, false, false, false, false, false, false, false, false, false] rfl rfl HT_.out ?_
              refine pus_ 2 (some 23) #[true, true, true, false, false, false, false, false, false, false, false] rfl rfl HT_.out ?_
              refine tas_ 3 (some 24) #[true, true, true, true, false, false, false, false, false, false, false] rfl rfl HT_.out HW_.out hHeld ?_
              refine pus_ 4 (some 25) #[true, true, true, true, true, false, false, false, false, false, false] rfl rfl HT_.out ?_
              refine pus_ 5 (some 26) #[true, true, true, true, true, true, false, false, false, false, false] rfl rfl HT_.out ?_
              refine pus_ 6 (some 27) #[true, true, true, true, true, true, true, false, false, false, false] rfl rfl HT_.out ?_
              refine tas_ 7 (some 28) #[true, true, true, true, true, true, true, true, false, false, false] rfl rfl HT_.out HW_.out hHeld ?_
              refine pus_ 8 (some 29) #[true, true, true, true, true, true, true, true, true, false, false] rfl rfl HT_.out ?_
              refine one_ (i := 9) (N := (some 30)) #[true, true, true, true, true, true, true, true, true, true, false] rfl rfl (one_of HT_.out (by kernel_rfl)) (by decide) (fun K hK => ?_)
              refine goes_ Tryz.func101 (by kernel_rfl) rfl #[.string (s.extract i s.size)] (by rfl) rfl rfl goa_ ?_
              refine (number_Scan.calls _ n _ A1.out).mono ?_
              rintro e w6 ⟨rfl, hb⟩
              refine ⟨_, rfl, ?_⟩
              have HX := Aside0.mk (HX5.out.below hb)
              have HK := Aside0.mk (HK5.out.call hb)
              have K2 := Aside0.mk (K25.out.call hb)
              have K3 := Aside0.mk (K35.out.call hb)
              clear hb HX5 HK5 K25 K35
              refine hK.out _ _ ⟨HX.out.s, HX.out.i⟩ (fun hHeld => ?_)
              clear hK K
              refine norm_ (a' := ?_) ?_ ?_
              rotate_left
              ·show Act.put _ (some 30) _ = _
               simp only [Act.put, List.setIfInBounds_toArray, List.set_cons_zero, List.set_cons_succ, i64_w, i32_w]
               rfl
              refine pus_ 10 (some 6) #[true, true, true, true, true, true, true, true, true, true, true] rfl rfl HT_.out ?_
              refine done_ (done_of HT_.out (by kernel_rfl)) ?_
              clear hHeld HT_ HW_
              have hc0 := HX.out.s
              have hc1 := HX.out.i
              have hz1 := HX.out.fz
              have ht0 := K3.out.c0
              have ht1 := K3.out.c1
              have ht2 := K3.out.c2
              have ht3 := K3.out.c3
              have hf0 := K3.out.fz 0
              have hf1 := K3.out.fz 1
              have hf2 := K3.out.fz 2
              have hf3 := K3.out.fz 3
              have hne := N2.out
              have hne2 := N2.out.symm
              have hne3 := N1.out
              have hne4 := N1.out.symm
              have hne5 := N3.out
              have hne6 := N3.out.symm
              go_wp2_with (first | (go_at_call 104; with_reducible refine (begins_calls k s g i HS.out HII.out _ _ ?lx A2.out).mono ?_; (case lx => exact (by repeat (first | (with_reducible first | exact HX.out | apply Lx.drewN | apply Lx.drew | apply Lx.set | apply lx_far N2.out)))); rintro e wb ⟨rfl, hb⟩; have HXn := Aside0.mk (Lx.below (by repeat (first | (with_reducible first | exact HX.out | apply Lx.drewN | apply Lx.drew | apply Lx.set | apply lx_far N2.out))) hb); have HKn := Aside0.mk (Lk.call (by repeat (first | (with_reducible first | exact HK.out | apply Lk.drewN | apply Lk.drew | apply Lk.set | apply lk_setN HB3.out))) hb); have K2n := Aside0.mk (Tk.call (by repeat (first | (with_reducible first | exact K2.out | apply Tk.drewN | apply Tk.drew | apply tk_far N1.out.symm | apply tk_far N3.out))) hb); have K3n := Aside0.mk (Tk.call (by repeat (first | (with_reducible first | exact K3.out | apply Tk.drewN | apply Tk.drew | apply tk_far N2.out.symm))) hb); clear hb; clear HX HK K2 K3; have HX := HXn; have HK := HKn; have K2 := K2n; have K3 := K3n; clear HXn HKn K2n K3n; have hc0 := HX.out.s; have hc1 := HX.out.i; have hz1 := HX.out.fz; have ht0 := K3.out.c0; have ht1 := K3.out.c1; have ht2 := K3.out.c2; have ht3 := K3.out.c3; have hf0 := K3.out.fz 0; have hf1 := K3.out.fz 1; have hf2 := K3.out.fz 2; have hf3 := K3.out.fz 3; have hr0 := K2.out.c0; have hr1 := K2.out.c1; have hr2 := K2.out.c2; have hr3 := K2.out.c3; have hs0 := K2.out.fz 0; have hs1 := K2.out.fz 1; have hs2 := K2.out.fz 2; have hs3 := K2.out.fz 3) | (go_at_call 107; with_reducible refine (quoted_calls k s g i _ _ HS.out HLT.out _ ?lx A4.out).mono ?_; (case lx => exact (by repeat (first | (with_reducible first | exact HX.out | apply Lx.drewN | apply Lx.drew | apply Lx.set | apply lx_far N2.out)))); rintro e wd ⟨rfl, hx, hk⟩; rw [HTX.out]; have HXn := Aside0.mk hx; have HKn := Aside0.mk (Lk.trans (by repeat (first | (with_reducible first | exact HK.out | apply Lk.drewN | apply Lk.drew | apply Lk.set | apply lk_setN HB3.out))) hk); have K2n := Aside0.mk (Tk.lk (by repeat (first | (with_reducible first | exact K2.out | apply Tk.drewN | apply Tk.drew | apply tk_far N1.out.symm | apply tk_far N3.out))) hk N1.out.symm); have K3n := Aside0.mk (Tk.lk (by repeat (first | (with_reducible first | exact K3.out | apply Tk.drewN | apply Tk.drew | apply tk_far N2.out.symm))) hk N2.out.symm); clear hx hk; clear HX HK K2 K3; have HX := HXn; have HK := HKn; have K2 := K2n; have K3 := K3n; clear HXn HKn K2n K3n; have hc0 := HX.out.s; have hc1 := HX.out.i; have hz1 := HX.out.fz; have ht0 := K3.out.c0; have ht1 := K3.out.c1; have ht2 := K3.out.c2; have ht3 := K3.out.c3; have hf0 := K3.out.fz 0; have hf1 := K3.out.fz 1; have hf2 := K3.out.fz 2; have hf3 := K3.out.fz 3; have hr0 := K2.out.c0; have hr1 := K2.out.c1; have hr2 := K2.out.c2; have hr3 := K2.out.c3; have hs0 := K2.out.fz 0; have hs1 := K2.out.fz 1; have hs2 := K2.out.fz 2; have hs3 := K2.out.fz 3))
              refine bodyPost_ret (results_cell_row rfl _ _ b2 62 #[.int .i64 6, .int .i64 (i : Int), .string x, .string (⟨#[]⟩ : ByteArray)] (0, 0) _ rfl (show _ from Tk.set3 (Tk.set2 (Tk.set1 (Tk.set0 (by repeat (first | (with_reducible first | exact K2.out | apply Tk.drewN | apply Tk.drew | apply tk_far N1.out.symm | apply tk_far N3.out))) _) _) _) _) huT rfl (by kernel_rfl)) rfl ?_
              exact ⟨rfl, Lx.far (Lx.far (Lx.far (Lx.far (by repeat (first | (with_reducible first | exact HX.out | apply Lx.drewN | apply Lx.drew | apply Lx.set | apply lx_far N2.out))) N1.out _ _) N1.out _ _) N1.out _ _) N1.out _ _, Lk.setN (Lk.setN (Lk.setN (Lk.setN (by repeat (first | (with_reducible first | exact HK.out | apply Lk.drewN | apply Lk.drew | apply Lk.set | apply lk_setN HB3.out))) HS2.out _ _) HS2.out _ _) HS2.out _ _) HS2.out _ _⟩
          · rw [if_neg h4] at hf
            cases hf
        · rw [if_neg h3] at hf
          obtain ⟨q, hq, hf⟩ := Option.bind_eq_some_iff.mp hf
          have A3 := Aside0.mk hq
          clear hq
          by_cases h4 : q ≥ 0
          · rw [if_pos h4] at hf
            have p3 : (bt s (i : Nat) == 34) = false := by simpa using (fun e => h3 (Or.inl e))
            have p4 : (bt s (i : Nat) == 39) = false := by simpa using (fun e => h3 (Or.inr e))
            have p5 : decide (q ≥ 0) = true := decide_eq_true h4
            have p6 : decide (0 ≤ q) = true := decide_eq_true h4
            have hwi1 : wrap64 ((i : Int) + 1) = ((i + 1 : Nat) : Int) := by have := HLT.out; have := HS.out; unfold wrap64; omega
            obtain ⟨m, hm⟩ : ∃ m, i + 1 = m := ⟨_, rfl⟩
            rw [hm] at hwi1 hf
            have hwi2 : IntKind.i64.wrap ((i : Int) + 1) = (m : Int) := by rw [i64_w]; exact hwi1
            have q6 : ((i : Int) ≤ (m : Int)) = True := eq_true (by omega)
            have q7 : ((m : Int) ≤ (s.size : Int)) = True := eq_true (by have := HLT.out; omega)
            have hxs : (s.extract i m).size = 1 := by rw [ByteArray.size_extract]; have := HLT.out; omega
            obtain ⟨x, hx⟩ : ∃ x : ByteArray, s.extract i m = x := ⟨_, rfl⟩
            rw [hx] at hf hxs
            have p8 : decide ((x.size : Int) > 64) = false := decide_eq_false (by omega)
            have p9 : decide (64 < (x.size : Int)) = false := decide_eq_false (by omega)
            clear h3 h4 hm hxs
            obtain ⟨rfl, rfl, rfl, rfl⟩ : (7 : Int) = kd ∧ x = tx ∧ (⟨#[]⟩ : ByteArray) = nm ∧ m = j := by
              have h := Option.some.inj hf
              simp only [Prod.mk.injEq] at h
              exact h
            clear hf
            go_enter Tryz.func85, Tryz.ntmps85
            go_wp2_with (first | ((with_reducible refine gate_dst (N := 2) rfl ?_); (try (refine gate_guard (by rfl) ?_; dsimp only)); refine box_event ?hg (N := 2) ?hd (cs := #[.int .i64 0, .int .i64 0, .string (⟨#[]⟩ : ByteArray), .string (⟨#[]⟩ : ByteArray)]) (t := 62) ?hr ?_; (case hd => rfl); (case hg => rfl); (case hr => first | (go_simp; done) | (go_simp; rfl)); intro b2 hg w2 hbox hb; have HG2 := Aside0.mk hg; have K2 := Aside0.mk (show Tk w2 b2 0 0 ⟨#[]⟩ ⟨#[]⟩ from hbox); have HX2 := Aside0.mk (Lx.below HX.out hb); have HK2 := Aside0.mk (Lk.of_below (g := g) hb); clear hg hbox hb HX; have HX := HX2; have HK := HK2; clear HX2 HK2; have hc0 := HX.out.s; have hc1 := HX.out.i; have hz1 := HX.out.fz) | ((with_reducible refine gate_dst (N := 3) rfl ?_); (try (refine gate_guard (by rfl) ?_; dsimp only)); refine box_event ?hg (N := 3) ?hd (cs := #[.int .i64 0, .int .i64 0, .string (⟨#[]⟩ : ByteArray), .string (⟨#[]⟩ : ByteArray)]) (t := 62) ?hr ?_; (case hd => rfl); (case hg => rfl); (case hr => first | (go_simp; done) | (go_simp; rfl)); intro b3 hg w3 hbox hb; have HG3 := Aside0.mk hg; have K2L := Aside0.mk (Tk.lt K2.out); have K3 := Aside0.mk (show Tk w3 b3 0 0 ⟨#[]⟩ ⟨#[]⟩ from hbox); have HX2 := Aside0.mk (Lx.below HX.out hb); have HK2 := Aside0.mk (Lk.call HK.out hb); have K22 := Aside0.mk (Tk.call K2.out hb); clear hg hbox hb HX HK K2; have HX := HX2; have HK := HK2; have K2 := K22; clear HX2 HK2 K22; have ht0 := K3.out.c0; have ht1 := K3.out.c1; have ht2 := K3.out.c2; have ht3 := K3.out.c3; have hf0 := K3.out.fz 0; have hf1 := K3.out.fz 1; have hf2 := K3.out.fz 2; have hf3 := K3.out.fz 3))
            have HS2 := Aside0.mk (show w.heap.size ≤ b2 by rw [HG2.out]; exact Nat.le_refl _)
            have HS3 := Aside0.mk (show b2 < b3 by rw [HG3.out]; exact K2L.out)
            have N1 := Aside0.mk (show g ≠ b2 by have := HS2.out; have := HG.out; omega)
            have N2 := Aside0.mk (show g ≠ b3 by have := HS2.out; have := HS3.out; have := HG.out; omega)
            have N3 := Aside0.mk (show b2 ≠ b3 by have := HS3.out; omega)
            have HB3 := Aside0.mk (show w.heap.size ≤ b3 by have := HS2.out; have := HS3.out; omega)
            have HX4 : Aside0 (Lx ((((w3.setCell ⟨b3, 0, none⟩ (.int .i64 0)).setCell ⟨b3, 1, none⟩ (.int .i64 (i : Int))).setCell ⟨b3, 2, none⟩ (.string (⟨#[]⟩ : ByteArray))).setCell ⟨b3, 3, none⟩ (.string (⟨#[]⟩ : ByteArray))) g s i) := ⟨Lx.far (Lx.far (Lx.far (Lx.far HX.out N2.out _ _) N2.out _ _) N2.out _ _) N2.out _ _⟩
            have HK4 : Aside0 (Lk g w ((((w3.setCell ⟨b3, 0, none⟩ (.int .i64 0)).setCell ⟨b3, 1, none⟩ (.int .i64 (i : Int))).setCell ⟨b3, 2, none⟩ (.string (⟨#[]⟩ : ByteArray))).setCell ⟨b3, 3, none⟩ (.string (⟨#[]⟩ : ByteArray)))) := ⟨Lk.setN (Lk.setN (Lk.setN (Lk.setN HK.out HB3.out _ _) HB3.out _ _) HB3.out _ _) HB3.out _ _⟩
            have K24 : Aside0 (Tk ((((w3.setCell ⟨b3, 0, none⟩ (.int .i64 0)).setCell ⟨b3, 1, none⟩ (.int .i64 (i : Int))).setCell ⟨b3, 2, none⟩ (.string (⟨#[]⟩ : ByteArray))).setCell ⟨b3, 3, none⟩ (.string (⟨#[]⟩ : ByteArray))) b2 0 0 ⟨#[]⟩ ⟨#[]⟩) := ⟨Tk.far (Tk.far (Tk.far (Tk.far K2.out N3.out _ _) N3.out _ _) N3.out _ _) N3.out _ _⟩
            have K34 : Aside0 (Tk ((((w3.setCell ⟨b3, 0, none⟩ (.int .i64 0)).setCell ⟨b3, 1, none⟩ (.int .i64 (i : Int))).setCell ⟨b3, 2, none⟩ (.string (⟨#[]⟩ : ByteArray))).setCell ⟨b3, 3, none⟩ (.string (⟨#[]⟩ : ByteArray))) b3 0 (i : Int) ⟨#[]⟩ ⟨#[]⟩) := ⟨Tk.set3 (Tk.set2 (Tk.set1 (Tk.set0 K3.out _) _) _) _⟩
            clear HX HK K2 K3 hc0 hc1 hz1 ht0 ht1 ht2 ht3 hf0 hf1 hf2 hf3
            generalize ((((w3.setCell ⟨b3, 0, none⟩ (.int .i64 0)).setCell ⟨b3, 1, none⟩ (.int .i64 (i : Int))).setCell ⟨b3, 2, none⟩ (.string (⟨#[]⟩ : ByteArray))).setCell ⟨b3, 3, none⟩ (.string (⟨#[]⟩ : ByteArray))) = w4 at HX4 HK4 K24 K34 ⊢
            have hc0 := HX4.out.s
            have hc1 := HX4.out.i
            go_wp2
            refine wp_region_quiet_lit (by kernel_rfl) (by kernel_rfl) ?_
            repeat (go_big_quiet_step (fail))
            refine wpQuiet_nil ?_
            intro _ hw'
            obtain ⟨nq, hw''⟩ := hw'
            subst hw''
            go_wp2
            have HX5 : Aside0 (Lx (w4.drewN nq).drew g s i) := ⟨HX4.out⟩
            have HK5 : Aside0 (Lk g w (w4.drewN nq).drew) := ⟨(HK4.out.drewN nq).drew⟩
            have K25 : Aside0 (Tk (w4.drewN nq).drew b2 0 0 ⟨#[]⟩ ⟨#[]⟩) := ⟨K24.out⟩
            have K35 : Aside0 (Tk (w4.drewN nq).drew b3 0 (i : Int) ⟨#[]⟩ ⟨#[]⟩) := ⟨K34.out⟩
            clear HX4 HK4 K24 K34 hc0 hc1
            refine start_ (n := 11) (S := (fun w' => w'.cell? ⟨g, 0, none⟩ = some (.string s) ∧ w'.cell? ⟨g, 1, none⟩ = some (.int .i64 (i : Int)))) (ds := []) #[false, false, false, false, false, false, false, false, false, false, false] (by kernel_rfl) rfl rfl ⟨HX5.out.s, HX5.out.i⟩ (fun hHeld => ?_)
            refine with_tabW lexer_word.tab4 lexer_word.bits4 (fun HT_ HW_ => ?_)
            generalize (w4.drewN nq).drew = w5 at HX5 HK5 K25 K35 hHeld ⊢
            refine pus_ 0 (some 21) #[true, false, false, false, false, false, false, false, false, false, false] rfl rfl HT_.out ?_
            refine pus_ 1 (some 22) #[true, true, false, false, false, false, false, false, false, false, false] rfl rfl HT_.out ?_
            refine pus_ 2 (some 23) #[true, true, true, false, false, false, false, false, false, false, false] rfl rfl HT_.out ?_
            refine tas_ 3 (some 24) #[true, true, true, true, false, false, false, false, false, false, false] rfl rfl HT_.out HW_.out hHeld ?_
            refine pus_ 4 (some 25) #[true, true, true, true, true, false, false, false, false, false, false] rfl rfl HT_.out ?_
            refine pus_ 5 (some 26) #[true, true, true, true, true, true, false, false, false, false, false] rfl rfl HT_.out ?_
            refine pus_ 6 (some 27) #[true, true, true, true, true, true, true, false, false, false, false] rfl rfl HT_.out ?_
            refine tas_ 7 (some 28) #[true, true, true, true, true, true, true, true, false, false, false] rfl rfl HT_.out HW_.out hHeld ?_
            refine pus_ 8 (some 29) #[true, true, true, true, true, true, true, true, true, false, false] rfl rfl HT_.out ?_
            refine one_ (i := 9) (N := (some 30)) #[true, true, true, true, true, true, true, true, true, true, false] rfl rfl (one_of HT_.out (by kernel_rfl)) (by decide) (fun K hK => ?_)
            refine goes_ Tryz.func101 (by kernel_rfl) rfl #[.string (s.extract i s.size)] (by rfl) rfl rfl goa_ ?_
            refine (number_Scan.calls _ n _ A1.out).mono ?_
            rintro e w6 ⟨rfl, hb⟩
            refine ⟨_, rfl, ?_⟩
            have HX := Aside0.mk (HX5.out.below hb)
            have HK := Aside0.mk (HK5.out.call hb)
            have K2 := Aside0.mk (K25.out.call hb)
            have K3 := Aside0.mk (K35.out.call hb)
            clear hb HX5 HK5 K25 K35
            refine hK.out _ _ ⟨HX.out.s, HX.out.i⟩ (fun hHeld => ?_)
            clear hK K
            refine norm_ (a' := ?_) ?_ ?_
            rotate_left
            ·show Act.put _ (some 30) _ = _
             simp only [Act.put, List.setIfInBounds_toArray, List.set_cons_zero, List.set_cons_succ, i64_w, i32_w]
             rfl
            refine pus_ 10 (some 6) #[true, true, true, true, true, true, true, true, true, true, true] rfl rfl HT_.out ?_
            refine done_ (done_of HT_.out (by kernel_rfl)) ?_
            clear hHeld HT_ HW_
            have hc0 := HX.out.s
            have hc1 := HX.out.i
            have hz1 := HX.out.fz
            have ht0 := K3.out.c0
            have ht1 := K3.out.c1
            have ht2 := K3.out.c2
            have ht3 := K3.out.c3
            have hf0 := K3.out.fz 0
            have hf1 := K3.out.fz 1
            have hf2 := K3.out.fz 2
            have hf3 := K3.out.fz 3
            have hne := N2.out
            have hne2 := N2.out.symm
            have hne3 := N1.out
            have hne4 := N1.out.symm
            have hne5 := N3.out
            have hne6 := N3.out.symm
            go_wp2_with (first | (go_at_call 104; with_reducible refine (begins_calls k s g i HS.out HII.out _ _ ?lx A2.out).mono ?_; (case lx => exact (by repeat (first | (with_reducible first | exact HX.out | apply Lx.drewN | apply Lx.drew | apply Lx.set | apply lx_far N2.out)))); rintro e wb ⟨rfl, hb⟩; have HXn := Aside0.mk (Lx.below (by repeat (first | (with_reducible first | exact HX.out | apply Lx.drewN | apply Lx.drew | apply Lx.set | apply lx_far N2.out))) hb); have HKn := Aside0.mk (Lk.call (by repeat (first | (with_reducible first | exact HK.out | apply Lk.drewN | apply Lk.drew | apply Lk.set | apply lk_setN HB3.out))) hb); have K2n := Aside0.mk (Tk.call (by repeat (first | (with_reducible first | exact K2.out | apply Tk.drewN | apply Tk.drew | apply tk_far N1.out.symm | apply tk_far N3.out))) hb); have K3n := Aside0.mk (Tk.call (by repeat (first | (with_reducible first | exact K3.out | apply Tk.drewN | apply Tk.drew | apply tk_far N2.out.symm))) hb); clear hb; clear HX HK K2 K3; have HX := HXn; have HK := HKn; have K2 := K2n; have K3 := K3n; clear HXn HKn K2n K3n; have hc0 := HX.out.s; have hc1 := HX.out.i; have hz1 := HX.out.fz; have ht0 := K3.out.c0; have ht1 := K3.out.c1; have ht2 := K3.out.c2; have ht3 := K3.out.c3; have hf0 := K3.out.fz 0; have hf1 := K3.out.fz 1; have hf2 := K3.out.fz 2; have hf3 := K3.out.fz 3; have hr0 := K2.out.c0; have hr1 := K2.out.c1; have hr2 := K2.out.c2; have hr3 := K2.out.c3; have hs0 := K2.out.fz 0; have hs1 := K2.out.fz 1; have hs2 := K2.out.fz 2; have hs3 := K2.out.fz 3) | (go_at_call 53; refine (strings_IndexByte.calls _ _ _ _ A3.out).mono ?_; rintro e wq ⟨rfl, ⟨nx, rfl⟩⟩))
            go_region
            go_wp2
            refine bodyPost_ret (results_cell_row rfl _ _ b2 62 #[.int .i64 7, .int .i64 (i : Int), .string x, .string (⟨#[]⟩ : ByteArray)] (0, 0) _ rfl (show _ from Tk.set3 (Tk.set2 (Tk.set1 (Tk.set0 (by repeat (first | (with_reducible first | exact K2.out | apply Tk.drewN | apply Tk.drew | apply tk_far N1.out.symm | apply tk_far N3.out))) _) _) _) _) huT rfl (by kernel_rfl)) rfl ?_
            exact ⟨rfl, Lx.far (Lx.far (Lx.far (Lx.far (Lx.setv (by repeat (first | (with_reducible first | exact HX.out | apply Lx.drewN | apply Lx.drew | apply Lx.set | apply lx_far N2.out))) (by first | with_reducible rfl | with_reducible exact hwi1)) N1.out _ _) N1.out _ _) N1.out _ _) N1.out _ _, Lk.setN (Lk.setN (Lk.setN (Lk.setN (by repeat (first | (with_reducible first | exact HK.out | apply Lk.drewN | apply Lk.drew | apply Lk.set | apply lk_setN HB3.out))) HS2.out _ _) HS2.out _ _) HS2.out _ _) HS2.out _ _⟩
          · rw [if_neg h4] at hf
            cases hf
      · rw [if_pos rfl] at hf
        obtain ⟨⟨l, e⟩, ht, hf⟩ := Option.bind_eq_some_iff.mp hf
        have A4 := Aside0.mk ht
        clear ht
        try dsimp only at hf
        by_cases h3 : l.length ≤ 64 ∧ e ≤ s.size
        · rw [if_pos h3] at hf
          obtain ⟨p, hp, hf⟩ := Option.bind_eq_some_iff.mp hf
          have A5 := Aside0.mk hp
          clear hp
          obtain ⟨x, hx⟩ : ∃ x : ByteArray, (⟨l.toArray⟩ : ByteArray) = x := ⟨_, rfl⟩
          have HTX := Aside0.mk hx
          have hxs : x.size ≤ 64 := by
            rw [← hx]
            show l.toArray.size ≤ 64
            rw [List.size_toArray]
            exact h3.1
          have p8 : decide ((x.size : Int) > 64) = false := decide_eq_false (by omega)
          have p9 : decide (64 < (x.size : Int)) = false := decide_eq_false (by omega)
          have HE := Aside0.mk h3.2
          have HWE := Aside0.mk (show IntKind.i64.wrap (e : Int) = (e : Int) from wrapE e 0 (by have := HE.out; have := HS.out; omega))
          have hwe1 : wrap64 ((e : Int) + 1) = ((e + 1 : Nat) : Int) := by have := HE.out; have := HS.out; unfold wrap64; omega
          rw [hx] at hf
          clear h3 hxs hx
          cases p
          · rw [if_neg (by decide)] at hf
            obtain ⟨rfl, rfl, rfl, rfl⟩ : (1 : Int) = kd ∧ x = tx ∧ (⟨#[]⟩ : ByteArray) = nm ∧ e = j := by
              have h := Option.some.inj hf
              simp only [Prod.mk.injEq] at h
              exact h
            clear hf
            go_enter Tryz.func85, Tryz.ntmps85
            go_wp2_with (first | ((with_reducible refine gate_dst (N := 2) rfl ?_); (try (refine gate_guard (by rfl) ?_; dsimp only)); refine box_event ?hg (N := 2) ?hd (cs := #[.int .i64 0, .int .i64 0, .string (⟨#[]⟩ : ByteArray), .string (⟨#[]⟩ : ByteArray)]) (t := 62) ?hr ?_; (case hd => rfl); (case hg => rfl); (case hr => first | (go_simp; done) | (go_simp; rfl)); intro b2 hg w2 hbox hb; have HG2 := Aside0.mk hg; have K2 := Aside0.mk (show Tk w2 b2 0 0 ⟨#[]⟩ ⟨#[]⟩ from hbox); have HX2 := Aside0.mk (Lx.below HX.out hb); have HK2 := Aside0.mk (Lk.of_below (g := g) hb); clear hg hbox hb HX; have HX := HX2; have HK := HK2; clear HX2 HK2; have hc0 := HX.out.s; have hc1 := HX.out.i; have hz1 := HX.out.fz) | ((with_reducible refine gate_dst (N := 3) rfl ?_); (try (refine gate_guard (by rfl) ?_; dsimp only)); refine box_event ?hg (N := 3) ?hd (cs := #[.int .i64 0, .int .i64 0, .string (⟨#[]⟩ : ByteArray), .string (⟨#[]⟩ : ByteArray)]) (t := 62) ?hr ?_; (case hd => rfl); (case hg => rfl); (case hr => first | (go_simp; done) | (go_simp; rfl)); intro b3 hg w3 hbox hb; have HG3 := Aside0.mk hg; have K2L := Aside0.mk (Tk.lt K2.out); have K3 := Aside0.mk (show Tk w3 b3 0 0 ⟨#[]⟩ ⟨#[]⟩ from hbox); have HX2 := Aside0.mk (Lx.below HX.out hb); have HK2 := Aside0.mk (Lk.call HK.out hb); have K22 := Aside0.mk (Tk.call K2.out hb); clear hg hbox hb HX HK K2; have HX := HX2; have HK := HK2; have K2 := K22; clear HX2 HK2 K22; have ht0 := K3.out.c0; have ht1 := K3.out.c1; have ht2 := K3.out.c2; have ht3 := K3.out.c3; have hf0 := K3.out.fz 0; have hf1 := K3.out.fz 1; have hf2 := K3.out.fz 2; have hf3 := K3.out.fz 3))
            have HS2 := Aside0.mk (show w.heap.size ≤ b2 by rw [HG2.out]; exact Nat.le_refl _)
            have HS3 := Aside0.mk (show b2 < b3 by rw [HG3.out]; exact K2L.out)
            have N1 := Aside0.mk (show g ≠ b2 by have := HS2.out; have := HG.out; omega)
            have N2 := Aside0.mk (show g ≠ b3 by have := HS2.out; have := HS3.out; have := HG.out; omega)
            have N3 := Aside0.mk (show b2 ≠ b3 by have := HS3.out; omega)
            have HB3 := Aside0.mk (show w.heap.size ≤ b3 by have := HS2.out; have := HS3.out; omega)
            have HX4 : Aside0 (Lx ((((w3.setCell ⟨b3, 0, none⟩ (.int .i64 0)).setCell ⟨b3, 1, none⟩ (.int .i64 (i : Int))).setCell ⟨b3, 2, none⟩ (.string (⟨#[]⟩ : ByteArray))).setCell ⟨b3, 3, none⟩ (.string (⟨#[]⟩ : ByteArray))) g s i) := ⟨Lx.far (Lx.far (Lx.far (Lx.far HX.out N2.out _ _) N2.out _ _) N2.out _ _) N2.out _ _⟩
            have HK4 : Aside0 (Lk g w ((((w3.setCell ⟨b3, 0, none⟩ (.int .i64 0)).setCell ⟨b3, 1, none⟩ (.int .i64 (i : Int))).setCell ⟨b3, 2, none⟩ (.string (⟨#[]⟩ : ByteArray))).setCell ⟨b3, 3, none⟩ (.string (⟨#[]⟩ : ByteArray)))) := ⟨Lk.setN (Lk.setN (Lk.setN (Lk.setN HK.out HB3.out _ _) HB3.out _ _) HB3.out _ _) HB3.out _ _⟩
            have K24 : Aside0 (Tk ((((w3.setCell ⟨b3, 0, none⟩ (.int .i64 0)).setCell ⟨b3, 1, none⟩ (.int .i64 (i : Int))).setCell ⟨b3, 2, none⟩ (.string (⟨#[]⟩ : ByteArray))).setCell ⟨b3, 3, none⟩ (.string (⟨#[]⟩ : ByteArray))) b2 0 0 ⟨#[]⟩ ⟨#[]⟩) := ⟨Tk.far (Tk.far (Tk.far (Tk.far K2.out N3.out _ _) N3.out _ _) N3.out _ _) N3.out _ _⟩
            have K34 : Aside0 (Tk ((((w3.setCell ⟨b3, 0, none⟩ (.int .i64 0)).setCell ⟨b3, 1, none⟩ (.int .i64 (i : Int))).setCell ⟨b3, 2, none⟩ (.string (⟨#[]⟩ : ByteArray))).setCell ⟨b3, 3, none⟩ (.string (⟨#[]⟩ : ByteArray))) b3 0 (i : Int) ⟨#[]⟩ ⟨#[]⟩) := ⟨Tk.set3 (Tk.set2 (Tk.set1 (Tk.set0 K3.out _) _) _) _⟩
            clear HX HK K2 K3 hc0 hc1 hz1 ht0 ht1 ht2 ht3 hf0 hf1 hf2 hf3
            generalize ((((w3.setCell ⟨b3, 0, none⟩ (.int .i64 0)).setCell ⟨b3, 1, none⟩ (.int .i64 (i : Int))).setCell ⟨b3, 2, none⟩ (.string (⟨#[]⟩ : ByteArray))).setCell ⟨b3, 3, none⟩ (.string (⟨#[]⟩ : ByteArray))) = w4 at HX4 HK4 K24 K34 ⊢
            have hc0 := HX4.out.s
            have hc1 := HX4.out.i
            go_wp2
            refine wp_region_quiet_lit (by kernel_rfl) (by kernel_rfl) ?_
            repeat (go_big_quiet_step (fail))
            refine wpQuiet_nil ?_
            intro _ hw'
            obtain ⟨nq, hw''⟩ := hw'
            subst hw''
            go_wp2
            have HX5 : Aside0 (Lx (w4.drewN nq).drew g s i) := ⟨HX4.out⟩
            have HK5 : Aside0 (Lk g w (w4.drewN nq).drew) := ⟨(HK4.out.drewN nq).drew⟩
            have K25 : Aside0 (Tk (w4.drewN nq).drew b2 0 0 ⟨#[]⟩ ⟨#[]⟩) := ⟨K24.out⟩
            have K35 : Aside0 (Tk (w4.drewN nq).drew b3 0 (i : Int) ⟨#[]⟩ ⟨#[]⟩) := ⟨K34.out⟩
            clear HX4 HK4 K24 K34 hc0 hc1
            refine start_ (n := 11) (S := (fun w' => w'.cell? ⟨g, 0, none⟩ = some (.string s) ∧ w'.cell? ⟨g, 1, none⟩ = some (.int .i64 (i : Int)))) (ds := []) #[false, false, false, false, false, false, false, false, false, false, false] (by kernel_rfl) rfl rfl ⟨HX5.out.s, HX5.out.i⟩ (fun hHeld => ?_)
            refine with_tabW lexer_word.tab4 lexer_word.bits4 (fun HT_ HW_ => ?_)
            generalize (w4.drewN nq).drew = w5 at HX5 HK5 K25 K35 hHeld ⊢
            refine pus_ 0 (some 21) #[true, false, false, false, false, false, false, false, false, false, false] rfl rfl HT_.out ?_
            refine pus_ 1 (some 22) #[true, true, false, false, false, false, false, false, false, false, false] rfl rfl HT_.out ?_
            refine pus_ 2 (some 23) #[true, true, true, false, false, false, false, false, false, false, false] rfl rfl HT_.out ?_
            refine tas_ 3 (some 24) #[true, true, true, true, false, false, false, false, false, false, false] rfl rfl HT_.out HW_.out hHeld ?_
            refine pus_ 4 (some 25) #[true, true, true, true, true, false, false, false, false, false, false] rfl rfl HT_.out ?_
            refine pus_ 5 (some 26) #[true, true, true, true, true, true, false, false, false, false, false] rfl rfl HT_.out ?_
            refine pus_ 6 (some 27) #[true, true, true, true, true, true, true, false, false, false, false] rfl rfl HT_.out ?_
            refine tas_ 7 (some 28) #[true, true, true, true, true, true, true, true, false, false, false] rfl rfl HT_.out HW_.out hHeld ?_
            refine pus_ 8 (some 29) #[true, true, true, true, true, true, true, true, true, false, false] rfl rfl HT_.out ?_
            refine one_ (i := 9) (N := (some 30)) #[true, true, true, true, true, true, true, true, true, true, false] rfl rfl (one_of HT_.out (by kernel_rfl)) (by decide) (fun K hK => ?_)
            refine goes_ Tryz.func101 (by kernel_rfl) rfl #[.string (s.extract i s.size)] (by rfl) rfl rfl goa_ ?_
            refine (number_Scan.calls _ n _ A1.out).mono ?_
            rintro e w6 ⟨rfl, hb⟩
            refine ⟨_, rfl, ?_⟩
            have HX := Aside0.mk (HX5.out.below hb)
            have HK := Aside0.mk (HK5.out.call hb)
            have K2 := Aside0.mk (K25.out.call hb)
            have K3 := Aside0.mk (K35.out.call hb)
            clear hb HX5 HK5 K25 K35
            refine hK.out _ _ ⟨HX.out.s, HX.out.i⟩ (fun hHeld => ?_)
            clear hK K
            refine norm_ (a' := ?_) ?_ ?_
            rotate_left
            ·show Act.put _ (some 30) _ = _
             simp only [Act.put, List.setIfInBounds_toArray, List.set_cons_zero, List.set_cons_succ, i64_w, i32_w]
             rfl
            refine pus_ 10 (some 6) #[true, true, true, true, true, true, true, true, true, true, true] rfl rfl HT_.out ?_
            refine done_ (done_of HT_.out (by kernel_rfl)) ?_
            clear hHeld HT_ HW_
            have hc0 := HX.out.s
            have hc1 := HX.out.i
            have hz1 := HX.out.fz
            have ht0 := K3.out.c0
            have ht1 := K3.out.c1
            have ht2 := K3.out.c2
            have ht3 := K3.out.c3
            have hf0 := K3.out.fz 0
            have hf1 := K3.out.fz 1
            have hf2 := K3.out.fz 2
            have hf3 := K3.out.fz 3
            have hne := N2.out
            have hne2 := N2.out.symm
            have hne3 := N1.out
            have hne4 := N1.out.symm
            have hne5 := N3.out
            have hne6 := N3.out.symm
            go_wp2_with (first | (go_at_call 104; with_reducible refine (begins_calls k s g i HS.out HII.out _ _ ?lx A2.out).mono ?_; (case lx => exact (by repeat (first | (with_reducible first | exact HX.out | apply Lx.drewN | apply Lx.drew | apply Lx.set | apply lx_far N2.out)))); rintro e wb ⟨rfl, hb⟩; have HXn := Aside0.mk (Lx.below (by repeat (first | (with_reducible first | exact HX.out | apply Lx.drewN | apply Lx.drew | apply Lx.set | apply lx_far N2.out))) hb); have HKn := Aside0.mk (Lk.call (by repeat (first | (with_reducible first | exact HK.out | apply Lk.drewN | apply Lk.drew | apply Lk.set | apply lk_setN HB3.out))) hb); have K2n := Aside0.mk (Tk.call (by repeat (first | (with_reducible first | exact K2.out | apply Tk.drewN | apply Tk.drew | apply tk_far N1.out.symm | apply tk_far N3.out))) hb); have K3n := Aside0.mk (Tk.call (by repeat (first | (with_reducible first | exact K3.out | apply Tk.drewN | apply Tk.drew | apply tk_far N2.out.symm))) hb); clear hb; clear HX HK K2 K3; have HX := HXn; have HK := HKn; have K2 := K2n; have K3 := K3n; clear HXn HKn K2n K3n; have hc0 := HX.out.s; have hc1 := HX.out.i; have hz1 := HX.out.fz; have ht0 := K3.out.c0; have ht1 := K3.out.c1; have ht2 := K3.out.c2; have ht3 := K3.out.c3; have hf0 := K3.out.fz 0; have hf1 := K3.out.fz 1; have hf2 := K3.out.fz 2; have hf3 := K3.out.fz 3; have hr0 := K2.out.c0; have hr1 := K2.out.c1; have hr2 := K2.out.c2; have hr3 := K2.out.c3; have hs0 := K2.out.fz 0; have hs1 := K2.out.fz 1; have hs2 := K2.out.fz 2; have hs3 := K2.out.fz 3) | (go_at_call 105; with_reducible refine (ident_calls k s g i _ _ HS.out HII.out _ ?lx A4.out).mono ?_; (case lx => exact (by repeat (first | (with_reducible first | exact HX.out | apply Lx.drewN | apply Lx.drew | apply Lx.set | apply lx_far N2.out)))); rintro e wd ⟨rfl, hx, hk⟩; rw [HTX.out]; have HXn := Aside0.mk hx; have HKn := Aside0.mk (Lk.trans (by repeat (first | (with_reducible first | exact HK.out | apply Lk.drewN | apply Lk.drew | apply Lk.set | apply lk_setN HB3.out))) hk); have K2n := Aside0.mk (Tk.lk (by repeat (first | (with_reducible first | exact K2.out | apply Tk.drewN | apply Tk.drew | apply tk_far N1.out.symm | apply tk_far N3.out))) hk N1.out.symm); have K3n := Aside0.mk (Tk.lk (by repeat (first | (with_reducible first | exact K3.out | apply Tk.drewN | apply Tk.drew | apply tk_far N2.out.symm))) hk N2.out.symm); clear hx hk; clear HX HK K2 K3; have HX := HXn; have HK := HKn; have K2 := K2n; have K3 := K3n; clear HXn HKn K2n K3n; have hc0 := HX.out.s; have hc1 := HX.out.i; have hz1 := HX.out.fz; have ht0 := K3.out.c0; have ht1 := K3.out.c1; have ht2 := K3.out.c2; have ht3 := K3.out.c3; have hf0 := K3.out.fz 0; have hf1 := K3.out.fz 1; have hf2 := K3.out.fz 2; have hf3 := K3.out.fz 3; have hr0 := K2.out.c0; have hr1 := K2.out.c1; have hr2 := K2.out.c2; have hr3 := K2.out.c3; have hs0 := K2.out.fz 0; have hs1 := K2.out.fz 1; have hs2 := K2.out.fz 2; have hs3 := K2.out.fz 3) | (go_at_call 102; with_reducible refine (is_paren0 s g e e HS.out HWE.out _ _ ?lx A5.out).mono ?_; (case lx => exact (by repeat (first | (with_reducible first | exact HX.out | apply Lx.drewN | apply Lx.drew | apply Lx.set | apply lx_far N2.out)))); rintro e wi ⟨rfl, ⟨ni, rfl⟩⟩))
            refine bodyPost_ret (results_cell_row rfl _ _ b2 62 #[.int .i64 1, .int .i64 (i : Int), .string x, .string (⟨#[]⟩ : ByteArray)] (0, 0) _ rfl (show _ from Tk.set3 (Tk.set2 (Tk.set1 (Tk.set0 (by repeat (first | (with_reducible first | exact K2.out | apply Tk.drewN | apply Tk.drew | apply tk_far N1.out.symm | apply tk_far N3.out))) _) _) _) _) huT rfl (by kernel_rfl)) rfl ?_
            exact ⟨rfl, Lx.far (Lx.far (Lx.far (Lx.far (by repeat (first | (with_reducible first | exact HX.out | apply Lx.drewN | apply Lx.drew | apply Lx.set | apply lx_far N2.out))) N1.out _ _) N1.out _ _) N1.out _ _) N1.out _ _, Lk.setN (Lk.setN (Lk.setN (Lk.setN (by repeat (first | (with_reducible first | exact HK.out | apply Lk.drewN | apply Lk.drew | apply Lk.set | apply lk_setN HB3.out))) HS2.out _ _) HS2.out _ _) HS2.out _ _) HS2.out _ _⟩
          · rw [if_pos rfl] at hf
            obtain ⟨rfl, rfl, rfl, rfl⟩ : (2 : Int) = kd ∧ x = tx ∧ (⟨#[]⟩ : ByteArray) = nm ∧ e + 1 = j := by
              have h := Option.some.inj hf
              simp only [Prod.mk.injEq] at h
              exact h
            clear hf
            go_enter Tryz.func85, Tryz.ntmps85
            go_wp2_with (first | ((with_reducible refine gate_dst (N := 2) rfl ?_); (try (refine gate_guard (by rfl) ?_; dsimp only)); refine box_event ?hg (N := 2) ?hd (cs := #[.int .i64 0, .int .i64 0, .string (⟨#[]⟩ : ByteArray), .string (⟨#[]⟩ : ByteArray)]) (t := 62) ?hr ?_; (case hd => rfl); (case hg => rfl); (case hr => first | (go_simp; done) | (go_simp; rfl)); intro b2 hg w2 hbox hb; have HG2 := Aside0.mk hg; have K2 := Aside0.mk (show Tk w2 b2 0 0 ⟨#[]⟩ ⟨#[]⟩ from hbox); have HX2 := Aside0.mk (Lx.below HX.out hb); have HK2 := Aside0.mk (Lk.of_below (g := g) hb); clear hg hbox hb HX; have HX := HX2; have HK := HK2; clear HX2 HK2; have hc0 := HX.out.s; have hc1 := HX.out.i; have hz1 := HX.out.fz) | ((with_reducible refine gate_dst (N := 3) rfl ?_); (try (refine gate_guard (by rfl) ?_; dsimp only)); refine box_event ?hg (N := 3) ?hd (cs := #[.int .i64 0, .int .i64 0, .string (⟨#[]⟩ : ByteArray), .string (⟨#[]⟩ : ByteArray)]) (t := 62) ?hr ?_; (case hd => rfl); (case hg => rfl); (case hr => first | (go_simp; done) | (go_simp; rfl)); intro b3 hg w3 hbox hb; have HG3 := Aside0.mk hg; have K2L := Aside0.mk (Tk.lt K2.out); have K3 := Aside0.mk (show Tk w3 b3 0 0 ⟨#[]⟩ ⟨#[]⟩ from hbox); have HX2 := Aside0.mk (Lx.below HX.out hb); have HK2 := Aside0.mk (Lk.call HK.out hb); have K22 := Aside0.mk (Tk.call K2.out hb); clear hg hbox hb HX HK K2; have HX := HX2; have HK := HK2; have K2 := K22; clear HX2 HK2 K22; have ht0 := K3.out.c0; have ht1 := K3.out.c1; have ht2 := K3.out.c2; have ht3 := K3.out.c3; have hf0 := K3.out.fz 0; have hf1 := K3.out.fz 1; have hf2 := K3.out.fz 2; have hf3 := K3.out.fz 3))
            have HS2 := Aside0.mk (show w.heap.size ≤ b2 by rw [HG2.out]; exact Nat.le_refl _)
            have HS3 := Aside0.mk (show b2 < b3 by rw [HG3.out]; exact K2L.out)
            have N1 := Aside0.mk (show g ≠ b2 by have := HS2.out; have := HG.out; omega)
            have N2 := Aside0.mk (show g ≠ b3 by have := HS2.out; have := HS3.out; have := HG.out; omega)
            have N3 := Aside0.mk (show b2 ≠ b3 by have := HS3.out; omega)
            have HB3 := Aside0.mk (show w.heap.size ≤ b3 by have := HS2.out; have := HS3.out; omega)
            have HX4 : Aside0 (Lx ((((w3.setCell ⟨b3, 0, none⟩ (.int .i64 0)).setCell ⟨b3, 1, none⟩ (.int .i64 (i : Int))).setCell ⟨b3, 2, none⟩ (.string (⟨#[]⟩ : ByteArray))).setCell ⟨b3, 3, none⟩ (.string (⟨#[]⟩ : ByteArray))) g s i) := ⟨Lx.far (Lx.far (Lx.far (Lx.far HX.out N2.out _ _) N2.out _ _) N2.out _ _) N2.out _ _⟩
            have HK4 : Aside0 (Lk g w ((((w3.setCell ⟨b3, 0, none⟩ (.int .i64 0)).setCell ⟨b3, 1, none⟩ (.int .i64 (i : Int))).setCell ⟨b3, 2, none⟩ (.string (⟨#[]⟩ : ByteArray))).setCell ⟨b3, 3, none⟩ (.string (⟨#[]⟩ : ByteArray)))) := ⟨Lk.setN (Lk.setN (Lk.setN (Lk.setN HK.out HB3.out _ _) HB3.out _ _) HB3.out _ _) HB3.out _ _⟩
            have K24 : Aside0 (Tk ((((w3.setCell ⟨b3, 0, none⟩ (.int .i64 0)).setCell ⟨b3, 1, none⟩ (.int .i64 (i : Int))).setCell ⟨b3, 2, none⟩ (.string (⟨#[]⟩ : ByteArray))).setCell ⟨b3, 3, none⟩ (.string (⟨#[]⟩ : ByteArray))) b2 0 0 ⟨#[]⟩ ⟨#[]⟩) := ⟨Tk.far (Tk.far (Tk.far (Tk.far K2.out N3.out _ _) N3.out _ _) N3.out _ _) N3.out _ _⟩
            have K34 : Aside0 (Tk ((((w3.setCell ⟨b3, 0, none⟩ (.int .i64 0)).setCell ⟨b3, 1, none⟩ (.int .i64 (i : Int))).setCell ⟨b3, 2, none⟩ (.string (⟨#[]⟩ : ByteArray))).setCell ⟨b3, 3, none⟩ (.string (⟨#[]⟩ : ByteArray))) b3 0 (i : Int) ⟨#[]⟩ ⟨#[]⟩) := ⟨Tk.set3 (Tk.set2 (Tk.set1 (Tk.set0 K3.out _) _) _) _⟩
            clear HX HK K2 K3 hc0 hc1 hz1 ht0 ht1 ht2 ht3 hf0 hf1 hf2 hf3
            generalize ((((w3.setCell ⟨b3, 0, none⟩ (.int .i64 0)).setCell ⟨b3, 1, none⟩ (.int .i64 (i : Int))).setCell ⟨b3, 2, none⟩ (.string (⟨#[]⟩ : ByteArray))).setCell ⟨b3, 3, none⟩ (.string (⟨#[]⟩ : ByteArray))) = w4 at HX4 HK4 K24 K34 ⊢
            have hc0 := HX4.out.s
            have hc1 := HX4.out.i
            go_wp2
            refine wp_region_quiet_lit (by kernel_rfl) (by kernel_rfl) ?_
            repeat (go_big_quiet_step (fail))
            refine wpQuiet_nil ?_
            intro _ hw'
            obtain ⟨nq, hw''⟩ := hw'
            subst hw''
            go_wp2
            have HX5 : Aside0 (Lx (w4.drewN nq).drew g s i) := ⟨HX4.out⟩
            have HK5 : Aside0 (Lk g w (w4.drewN nq).drew) := ⟨(HK4.out.drewN nq).drew⟩
            have K25 : Aside0 (Tk (w4.drewN nq).drew b2 0 0 ⟨#[]⟩ ⟨#[]⟩) := ⟨K24.out⟩
            have K35 : Aside0 (Tk (w4.drewN nq).drew b3 0 (i : Int) ⟨#[]⟩ ⟨#[]⟩) := ⟨K34.out⟩
            clear HX4 HK4 K24 K34 hc0 hc1
            refine start_ (n := 11) (S := (fun w' => w'.cell? ⟨g, 0, none⟩ = some (.string s) ∧ w'.cell? ⟨g, 1, none⟩ = some (.int .i64 (i : Int)))) (ds := []) #[false, false, false, false, false, false, false, false, false, false, false] (by kernel_rfl) rfl rfl ⟨HX5.out.s, HX5.out.i⟩ (fun hHeld => ?_)
            refine with_tabW lexer_word.tab4 lexer_word.bits4 (fun HT_ HW_ => ?_)
            generalize (w4.drewN nq).drew = w5 at HX5 HK5 K25 K35 hHeld ⊢
            refine pus_ 0 (some 21) #[true, false, false, false, false, false, false, false, false, false, false] rfl rfl HT_.out ?_
            refine pus_ 1 (some 22) #[true, true, false, false, false, false, false, false, false, false, false] rfl rfl HT_.out ?_
            refine pus_ 2 (some 23) #[true, true, true, false, false, false, false, false, false, false, false] rfl rfl HT_.out ?_
            refine tas_ 3 (some 24) #[true, true, true, true, false, false, false, false, false, false, false] rfl rfl HT_.out HW_.out hHeld ?_
            refine pus_ 4 (some 25) #[true, true, true, true, true, false, false, false, false, false, false] rfl rfl HT_.out ?_
            refine pus_ 5 (some 26) #[true, true, true, true, true, true, false, false, false, false, false] rfl rfl HT_.out ?_
            refine pus_ 6 (some 27) #[true, true, true, true, true, true, true, false, false, false, false] rfl rfl HT_.out ?_
            refine tas_ 7 (some 28) #[true, true, true, true, true, true, true, true, false, false, false] rfl rfl HT_.out HW_.out hHeld ?_
            refine pus_ 8 (some 29) #[true, true, true, true, true, true, true, true, true, false, false] rfl rfl HT_.out ?_
            refine one_ (i := 9) (N := (some 30)) #[true, true, true, true, true, true, true, true, true, true, false] rfl rfl (one_of HT_.out (by kernel_rfl)) (by decide) (fun K hK => ?_)
            refine goes_ Tryz.func101 (by kernel_rfl) rfl #[.string (s.extract i s.size)] (by rfl) rfl rfl goa_ ?_
            refine (number_Scan.calls _ n _ A1.out).mono ?_
            rintro e w6 ⟨rfl, hb⟩
            refine ⟨_, rfl, ?_⟩
            have HX := Aside0.mk (HX5.out.below hb)
            have HK := Aside0.mk (HK5.out.call hb)
            have K2 := Aside0.mk (K25.out.call hb)
            have K3 := Aside0.mk (K35.out.call hb)
            clear hb HX5 HK5 K25 K35
            refine hK.out _ _ ⟨HX.out.s, HX.out.i⟩ (fun hHeld => ?_)
            clear hK K
            refine norm_ (a' := ?_) ?_ ?_
            rotate_left
            ·show Act.put _ (some 30) _ = _
             simp only [Act.put, List.setIfInBounds_toArray, List.set_cons_zero, List.set_cons_succ, i64_w, i32_w]
             rfl
            refine pus_ 10 (some 6) #[true, true, true, true, true, true, true, true, true, true, true] rfl rfl HT_.out ?_
            refine done_ (done_of HT_.out (by kernel_rfl)) ?_
            clear hHeld HT_ HW_
            have hc0 := HX.out.s
            have hc1 := HX.out.i
            have hz1 := HX.out.fz
            have ht0 := K3.out.c0
            have ht1 := K3.out.c1
            have ht2 := K3.out.c2
            have ht3 := K3.out.c3
            have hf0 := K3.out.fz 0
            have hf1 := K3.out.fz 1
            have hf2 := K3.out.fz 2
            have hf3 := K3.out.fz 3
            have hne := N2.out
            have hne2 := N2.out.symm
            have hne3 := N1.out
            have hne4 := N1.out.symm
            have hne5 := N3.out
            have hne6 := N3.out.symm
            go_wp2_with (first | (go_at_call 104; with_reducible refine (begins_calls k s g i HS.out HII.out _ _ ?lx A2.out).mono ?_; (case lx => exact (by repeat (first | (with_reducible first | exact HX.out | apply Lx.drewN | apply Lx.drew | apply Lx.set | apply lx_far N2.out)))); rintro e wb ⟨rfl, hb⟩; have HXn := Aside0.mk (Lx.below (by repeat (first | (with_reducible first | exact HX.out | apply Lx.drewN | apply Lx.drew | apply Lx.set | apply lx_far N2.out))) hb); have HKn := Aside0.mk (Lk.call (by repeat (first | (with_reducible first | exact HK.out | apply Lk.drewN | apply Lk.drew | apply Lk.set | apply lk_setN HB3.out))) hb); have K2n := Aside0.mk (Tk.call (by repeat (first | (with_reducible first | exact K2.out | apply Tk.drewN | apply Tk.drew | apply tk_far N1.out.symm | apply tk_far N3.out))) hb); have K3n := Aside0.mk (Tk.call (by repeat (first | (with_reducible first | exact K3.out | apply Tk.drewN | apply Tk.drew | apply tk_far N2.out.symm))) hb); clear hb; clear HX HK K2 K3; have HX := HXn; have HK := HKn; have K2 := K2n; have K3 := K3n; clear HXn HKn K2n K3n; have hc0 := HX.out.s; have hc1 := HX.out.i; have hz1 := HX.out.fz; have ht0 := K3.out.c0; have ht1 := K3.out.c1; have ht2 := K3.out.c2; have ht3 := K3.out.c3; have hf0 := K3.out.fz 0; have hf1 := K3.out.fz 1; have hf2 := K3.out.fz 2; have hf3 := K3.out.fz 3; have hr0 := K2.out.c0; have hr1 := K2.out.c1; have hr2 := K2.out.c2; have hr3 := K2.out.c3; have hs0 := K2.out.fz 0; have hs1 := K2.out.fz 1; have hs2 := K2.out.fz 2; have hs3 := K2.out.fz 3) | (go_at_call 105; with_reducible refine (ident_calls k s g i _ _ HS.out HII.out _ ?lx A4.out).mono ?_; (case lx => exact (by repeat (first | (with_reducible first | exact HX.out | apply Lx.drewN | apply Lx.drew | apply Lx.set | apply lx_far N2.out)))); rintro e wd ⟨rfl, hx, hk⟩; rw [HTX.out]; have HXn := Aside0.mk hx; have HKn := Aside0.mk (Lk.trans (by repeat (first | (with_reducible first | exact HK.out | apply Lk.drewN | apply Lk.drew | apply Lk.set | apply lk_setN HB3.out))) hk); have K2n := Aside0.mk (Tk.lk (by repeat (first | (with_reducible first | exact K2.out | apply Tk.drewN | apply Tk.drew | apply tk_far N1.out.symm | apply tk_far N3.out))) hk N1.out.symm); have K3n := Aside0.mk (Tk.lk (by repeat (first | (with_reducible first | exact K3.out | apply Tk.drewN | apply Tk.drew | apply tk_far N2.out.symm))) hk N2.out.symm); clear hx hk; clear HX HK K2 K3; have HX := HXn; have HK := HKn; have K2 := K2n; have K3 := K3n; clear HXn HKn K2n K3n; have hc0 := HX.out.s; have hc1 := HX.out.i; have hz1 := HX.out.fz; have ht0 := K3.out.c0; have ht1 := K3.out.c1; have ht2 := K3.out.c2; have ht3 := K3.out.c3; have hf0 := K3.out.fz 0; have hf1 := K3.out.fz 1; have hf2 := K3.out.fz 2; have hf3 := K3.out.fz 3; have hr0 := K2.out.c0; have hr1 := K2.out.c1; have hr2 := K2.out.c2; have hr3 := K2.out.c3; have hs0 := K2.out.fz 0; have hs1 := K2.out.fz 1; have hs2 := K2.out.fz 2; have hs3 := K2.out.fz 3) | (go_at_call 102; with_reducible refine (is_paren0 s g e e HS.out HWE.out _ _ ?lx A5.out).mono ?_; (case lx => exact (by repeat (first | (with_reducible first | exact HX.out | apply Lx.drewN | apply Lx.drew | apply Lx.set | apply lx_far N2.out)))); rintro e wi ⟨rfl, ⟨ni, rfl⟩⟩))
            refine bodyPost_ret (results_cell_row rfl _ _ b2 62 #[.int .i64 2, .int .i64 (i : Int), .string x, .string (⟨#[]⟩ : ByteArray)] (0, 0) _ rfl (show _ from Tk.set3 (Tk.set2 (Tk.set1 (Tk.set0 (by repeat (first | (with_reducible first | exact K2.out | apply Tk.drewN | apply Tk.drew | apply tk_far N1.out.symm | apply tk_far N3.out))) _) _) _) _) huT rfl (by kernel_rfl)) rfl ?_
            exact ⟨rfl, Lx.far (Lx.far (Lx.far (Lx.far (Lx.setv (by repeat (first | (with_reducible first | exact HX.out | apply Lx.drewN | apply Lx.drew | apply Lx.set | apply lx_far N2.out))) (by omega)) N1.out _ _) N1.out _ _) N1.out _ _) N1.out _ _, Lk.setN (Lk.setN (Lk.setN (Lk.setN (by repeat (first | (with_reducible first | exact HK.out | apply Lk.drewN | apply Lk.drew | apply Lk.set | apply lk_setN HB3.out))) HS2.out _ _) HS2.out _ _) HS2.out _ _) HS2.out _ _⟩
        · rw [if_neg h3] at hf
          cases hf
  · rw [if_neg hlt] at hf
    cases hf
end Go.Proofs.YtofdhdafabmhmaaGreatDoor.Giv
end
section
namespace Go.Proofs.YtofdhdafabmhmaaGreatDoor.Giv
open Go.RowKit Go.Proofs.YtofdhdafabmhmaaGreatDoorW.PrintWords Go.Proofs.YtofdhdafabmhmaaGreatDoorW.PrintLast Go.Proofs.YtofdhdafabmhmaaGreatDoorW.PrintMore Go.Proofs.YtofdhdafabmhmaaGreatDoor.PAr
open Go.Proofs.YtofdhdafabmhmaaGreatDoor.Opn Go.BigFrame
/-- The words of bytes, from a place on. -/
def token_Tokens.l0 : Nat → ByteArray → Nat → List S62 → Option (List S62)
  | 0, _, _, _ => none
  | k + 1, s, i, out => if i < s.size then (if out.length < 65536 then ((wordF k s i).bind fun t => if t.2.2.2 ≤ s.size then ((skipF k s t.2.2.2).bind fun j => if j ≤ s.size then token_Tokens.l0 k s j (out ++ [⟨t.1, (i : Int), t.2.1, t.2.2.1⟩]) else none) else none) else none) else some (out ++ [⟨8, (s.size : Int), ⟨#[]⟩, ⟨#[]⟩⟩])
def token_Tokens.f (k : Nat) (l0 : List Int) : Option (List S62 × Int × Int) := if l0.length ≤ 262144 then ((skipF k (strOfNums l0) 0).bind fun i => if i ≤ (strOfNums l0).size then ((token_Tokens.l0 k (strOfNums l0) i []).bind fun r => some (r, 0, 0)) else none) else none
theorem token_Tokens.mono_l : ∀ k, (∀ s i out, LeO (token_Tokens.l0 k s i out) (token_Tokens.l0 (k + 1) s i out))
  | 0 => fun _ _ _ r h => by simp [token_Tokens.l0] at h
  | k + 1 => by
    have ih0 := token_Tokens.mono_l k
    intro s i out
    unfold token_Tokens.l0
    refine LeO.ite (LeO.ite (LeO.bind (wordF.mono _ _ _) (fun t => LeO.ite (LeO.bind (skipF.mono _ _ _) (fun j => LeO.ite (ih0 _ _ _) (LeO.none _))) (LeO.none _))) (LeO.none _)) (LeO.refl _)
theorem token_Tokens.mono : ∀ l0 k, LeO (token_Tokens.f k l0) (token_Tokens.f (k + 1) l0) := by
  intro l0 k
  unfold token_Tokens.f
  refine LeO.ite (LeO.bind (skipF.mono _ _ _) (fun i => LeO.ite (LeO.bind (token_Tokens.mono_l _ _ _ _) (fun _ => LeO.refl _)) (LeO.none _))) (LeO.none _)
/-- The blocks of Tokens: its three results' variables, and the lexer. -/
structure Toks (w w1 : World) (bo ba be g : Nat) (s : ByteArray) (i : Nat) (out : List S62) (v : Value) : Prop where
  o : w1.heap[bo]? = some (.cells #[v] 41 (0, 0))
  a : w1.heap[ba]? = some (.cells #[.int .i64 0] 3 (0, 0))
  e : w1.heap[be]? = some (.cells #[.int .i64 0] 38 (0, 0))
  x : Lx w1 g s i
  r : Kd.R k62 62 w1 w.heap.size (fun k => k ≠ bo ∧ k ≠ ba ∧ k ≠ be ∧ k ≠ g) v out
  b : Below w.heap.size w w1
structure Apart4 (w : World) (bo ba be g : Nat) : Prop where
  l0 : w.heap.size ≤ bo
  l1 : bo < ba
  l2 : ba < be
  l3 : be < g
section
variable {w w1 w2 : World} {bo ba be g i : Nat} {s : ByteArray} {out : List S62} {v : Value}
theorem Toks.below (h : Toks w w1 bo ba be g s i out v) (hb : Below w1.heap.size w1 w2) : Toks w w2 bo ba be g s i out v :=
  ⟨blk_below h.o hb, blk_below h.a hb, blk_below h.e hb, h.x.below hb, Kd.R_below h.r hb, below_step h.b hb⟩
theorem Toks.lk (h : Toks w w1 bo ba be g s i out v) (hp : Apart4 w bo ba be g) {j : Nat} (hk : Lk g w1 w2) (hx : Lx w2 g s j) : Toks w w2 bo ba be g s j out v :=
  ⟨hk.at h.o (by have := hp.l1; have := hp.l2; have := hp.l3; omega), hk.at h.a (by have := hp.l2; have := hp.l3; omega), hk.at h.e (by have := hp.l3; omega), hx,
    Kd.R_step h.r (fun k hok hlt => hk.heap k hlt hok.2.2.2), Lk.below h.b hk (by have := hp.l0; have := hp.l1; have := hp.l2; have := hp.l3; omega) (below_size h.b)⟩
theorem Toks.drewN (h : Toks w w1 bo ba be g s i out v) (n : Nat) : Toks w (w1.drewN n) bo ba be g s i out v := h.below ⟨rfl, rfl, rfl, Nat.le_refl _, fun _ _ => rfl⟩
theorem Toks.drew (h : Toks w w1 bo ba be g s i out v) : Toks w w1.drew bo ba be g s i out v := h.below ⟨rfl, rfl, rfl, Nat.le_refl _, fun _ _ => rfl⟩
/-- A cell of a block that is neither of these, nor the row's. -/
theorem Toks.far (h : Toks w w1 bo ba be g s i out v) {b : Nat} (h0 : w.heap.size ≤ b) (h1 : bo ≠ b) (h2 : ba ≠ b) (h3 : be ≠ b) (h4 : g ≠ b) (h5 : v.ownBlock ≠ some b) (o : Nat) (u : Value) : Toks w (w1.setCell ⟨b, o, none⟩ u) bo ba be g s i out v :=
  ⟨blk_far h.o h1 _, blk_far h.a h2 _, blk_far h.e h3 _, h.x.far h4 _ _, Kd.R_mono (Kd.R_far (Kd.R_reok rfl h.r (ok := fun k => (k ≠ bo ∧ k ≠ ba ∧ k ≠ be ∧ k ≠ g) ∧ k ≠ b) (fun k hk => ⟨h.r.1 k hk, fun e => h5 (by rw [hk, e])⟩)) (fun k hk => hk.2) _) (fun _ hk => hk.1), below_set h.b h0⟩
theorem Toks.set (h : Toks w w1 bo ba be g s i out v) (hp : Apart4 w bo ba be g) {out' : List S62} {v' : Value} (hg : w1.grownBy w2 v.ownBlock) (hr : Kd.R k62 62 w2 w.heap.size (fun k => k ≠ bo ∧ k ≠ ba ∧ k ≠ be ∧ k ≠ g) v' out') (hb : Below w.heap.size w w2) :
    Toks w (w2.setCell ⟨bo, 0, none⟩ v') bo ba be g s i out' v' := by
  have n0 : some bo ≠ v.ownBlock := fun e => (h.r.1 bo e.symm).1 rfl
  have n1 : some ba ≠ v.ownBlock := fun e => (h.r.1 ba e.symm).2.1 rfl
  have n2 : some be ≠ v.ownBlock := fun e => (h.r.1 be e.symm).2.2.1 rfl
  have n3 : some g ≠ v.ownBlock := fun e => (h.r.1 g e.symm).2.2.2 rfl
  have hp1 := hp.l1
  have hp2 := hp.l2
  have hp3 := hp.l3
  refine ⟨blk_set (blk_grown h.o hg n0) 0 _, blk_far (blk_grown h.a hg n1) (by exact (by omega : ba ≠ bo)) _, blk_far (blk_grown h.e hg n2) (by exact (by omega : be ≠ bo)) _, ?_, Kd.R_far hr (fun k hk => hk.1) _, below_set hb hp.l0⟩
  have hx : Lx w2 g s i := blk_grown h.x hg n3
  exact hx.far (by omega : g ≠ bo) _ _
theorem Toks.fin (h : Toks w w1 bo ba be g s i out v) (hp : Apart4 w bo ba be g) :
    let W := ((w1.setCell ⟨ba, 0, none⟩ (.int .i64 0)).setCell ⟨be, 0, none⟩ (.int .i64 0))
    W.cell? ⟨bo, 0, none⟩ = some v ∧ W.cell? ⟨ba, 0, none⟩ = some (.int .i64 0) ∧ W.cell? ⟨be, 0, none⟩ = some (.int .i64 0) ∧ Kd.R k62 62 W w.heap.size (fun _ => True) v out ∧ Below w.heap.size w W := by
  have hp0 := hp.l0
  have hp1 := hp.l1
  have hp2 := hp.l2
  have h0 := blk_far (blk_far h.o (show bo ≠ ba by omega) (p := ⟨ba, 0, none⟩) (.int .i64 0)) (show bo ≠ be by omega) (p := ⟨be, 0, none⟩) (.int .i64 0)
  have h1 := blk_far (blk_set h.a 0 (.int .i64 0)) (show ba ≠ be by omega) (p := ⟨be, 0, none⟩) (.int .i64 0)
  have h2 := blk_set (blk_far h.e (show be ≠ ba by omega) (p := ⟨ba, 0, none⟩) (.int .i64 0)) 0 (.int .i64 0)
  exact ⟨(blk_cell h0 0).trans rfl, (blk_cell h1 0).trans rfl, (blk_cell h2 0).trans rfl, Kd.R_mono (Kd.R_far (Kd.R_far h.r (fun k hk => hk.2.1) _) (fun k hk => hk.2.2.1) _) (fun _ _ => trivial), below_set (below_set h.b (by omega)) (by omega)⟩
end
/-- What comes of a region that ends as it should. -/
def QN (Q : Exit → Act → World → Prop) : Exit → Act → World → Prop
  | .normal, a, w => Q .normal a w
  | _, _, _ => False
theorem QN.to {Q : Exit → Act → World → Prop} : ∀ e a w, QN Q e a w → Q e a w := by
  intro e a w h
  cases e <;> first | exact h | exact h.elim
theorem infoT : (Tryz.prog.info? 62).map (fun i => (i.zero, i.size, i.bytes)) = some (some (.agg #[.int .i64 0, .int .i64 0, .string ⟨#[]⟩, .string ⟨#[]⟩]), 4, 48) := by kernel_rfl
theorem tokens_idle (bo ba be : Nat) (w : World) :
    CallsD Tryz.prog 83 #[.pointer (some ⟨bo, 0, none⟩), .pointer (some ⟨ba, 0, none⟩), .pointer (some ⟨be, 0, none⟩)] .returning w fun e u' w' => e = .returned (.tuple #[]) ∧ u' = .returning ∧ w' = w := by
  refine callsD_of_wpS Tryz.func83 rfl fun c₀ cs hu => ?_
  apply wpS_seq
  apply wpS_region
  simp [wpOpsS, go_sem, recoverD, hu, Tryz.ntmps83, Exit.thenS]
  apply wpS_seq
  apply wpS_region
  simp [wpOpsS, go_sem, recoverD, Tryz.ntmps83, Exit.thenS]
  refine wpS_cond (t := false) (by simp [Act.eval, Array.replicate]) ?_
  simp only [Bool.false_eq_true, if_false]
  refine wpS_of_wp (wp_skip ?_)
  cases c₀
  simp_all [bodyPostS, results, Tryz.results83]
def token_Tokens.T13 : Bool × List (List Nat × List Nat) := (true, [([], []), ([], []), ([1], [1]), ([2], [2]), ([3], [3]), ([4], [4]), ([5], [5]), ([6], [6]), ([0, 7], [0, 7]), ([8, 8, 0, 1, 2, 3, 4, 5, 6, 7, 8], [8]), ([9, 0, 1, 2, 3, 4, 5, 6, 7, 8, 9], []), ([10, 0, 1, 2, 3, 4, 5, 6, 7, 8, 9, 10], [])])
def token_Tokens.B13 : List Nat := [0, 0, 2, 6, 14, 30, 62, 126, 255, 511, 1023, 2047]
theorem token_Tokens.tab13 : rtab .any (opsOf Tryz.f48 13) = token_Tokens.T13 := by kernel_rfl
theorem token_Tokens.bits13 : waitsOk token_Tokens.T13.2 token_Tokens.B13 = true := by kernel_rfl
set_option maxHeartbeats 16000000 in
set_option maxRecDepth 100000 in
theorem token_Tokens.calls (k : Nat) (A0 : Option Addr) (c0 : Nat) (l0 : List Int) (r0 : List S62) (r1 r2 : Int) (w : World) (hr0 : Kd.C (Kd.int .u8) w A0 l0.length l0) (hc0 : l0.length ≤ c0) (h : token_Tokens.f k l0 = some (r0, r1, r2)) :
    Calls Tryz.prog 48 #[.slice A0 l0.length c0] w fun e w' => ∃ v0_ : Value, e = .returned (.tuple #[v0_, .int .i64 r1, .int .i64 r2]) ∧ Kd.R k62 62 w' w.heap.size (fun _ => True) v0_ r0 ∧ Below w.heap.size w w' := by
  have hmf : ∀ (fn : Fn) (first cap : Array Value) (w : World), (Instr.makeFunc fn first cap).run Tryz.prog w = .ok (.func fn first cap) w := fun _ _ _ _ => rfl
  have hu := Tryz.underlying103
  have hut := Tryz.underlying9
  have huT := Tryz.underlying62
  have HR := Aside0.mk hr0
  clear hr0
  unfold token_Tokens.f at h
  by_cases hl : l0.length ≤ 262144
  · rw [if_pos hl] at h
    obtain ⟨i0, hsk, h⟩ := Option.bind_eq_some_iff.mp h
    have hsz : (strOfNums l0).size = l0.length := by
      show ((l0.map fun n => UInt8.ofNat n.toNat).toArray).size = l0.length
      rw [List.size_toArray, List.length_map]
    obtain ⟨s, hs⟩ : ∃ s, strOfNums l0 = s := ⟨_, rfl⟩
    rw [hs] at h hsk hsz
    have ES := Aside0.mk hs
    by_cases hi0 : i0 ≤ s.size
    · rw [if_pos hi0] at h
      obtain ⟨r, hlp, h⟩ := Option.bind_eq_some_iff.mp h
      obtain ⟨rfl, rfl, rfl⟩ : r = r0 ∧ 0 = r1 ∧ 0 = r2 := by
        have h := Option.some.inj h
        simp only [Prod.mk.injEq] at h
        exact h
      clear h
      have HS := Aside0.mk (show s.size ≤ 140737488351232 by omega)
      have HSZ := Aside0.mk (show s.size ≤ 262144 by omega)
      have HSK := Aside0.mk hsk
      have HLP := Aside0.mk hlp
      have HI0 := Aside0.mk hi0
      have H00 := Aside0.mk (Nat.zero_le s.size)
      have p1 : decide ((l0.length : Int) > 262144) = false := decide_eq_false (by omega)
      have p2 : decide (262144 < (l0.length : Int)) = false := decide_eq_false (by omega)
      clear hsk hlp hi0 hs hsz hl
      go_enter_defers Tryz.func48, Tryz.ntmps48
      go_wp2_with (first | ((with_reducible refine gate_dst (N := 2) rfl ?_); (try (refine gate_guard (by rfl) ?_; dsimp only)); refine box_event ?hg (N := 2) ?hd (cs := #[.slice none 0 0]) (t := 41) ?hr ?_; (case hd => rfl); (case hg => rfl); (case hr => first | (go_simp; done) | (go_simp; rfl)); intro bo hg w1 hbox hb; have G0 := Aside0.mk hg; have B0 := Aside0.mk hbox; have BL := Aside0.mk hb; clear hg hbox hb) | ((with_reducible refine gate_dst (N := 3) rfl ?_); (try (refine gate_guard (by rfl) ?_; dsimp only)); refine box_event ?hg (N := 3) ?hd (cs := #[.int .i64 0]) (t := 3) ?hr ?_; (case hd => rfl); (case hg => rfl); (case hr => first | (go_simp; done) | (go_simp; rfl)); intro ba hg w2 hbox hb; have G1 := Aside0.mk hg; have B1 := Aside0.mk hbox; have L0 := Aside0.mk (blk_lt B0.out); have n0 := Aside0.mk (blk_below B0.out hb); have n1 := Aside0.mk (below_step BL.out hb); clear hg hbox hb B0 BL; have B0 := n0; have BL := n1; clear n0 n1) | ((with_reducible refine gate_dst (N := 4) rfl ?_); (try (refine gate_guard (by rfl) ?_; dsimp only)); refine box_event ?hg (N := 4) ?hd (cs := #[.int .i64 0]) (t := 38) ?hr ?_; (case hd => rfl); (case hg => rfl); (case hr => first | (go_simp; done) | (go_simp; rfl)); intro be hg w3 hbox hb; have G2 := Aside0.mk hg; have B2 := Aside0.mk hbox; have L1 := Aside0.mk (blk_lt B1.out); have n0 := Aside0.mk (blk_below B0.out hb); have n2 := Aside0.mk (blk_below B1.out hb); have n1 := Aside0.mk (below_step BL.out hb); clear hg hbox hb B0 BL B1; have B0 := n0; have BL := n1; have B1 := n2; clear n0 n1 n2; have hst := fun c => Kd.C_string (P := Tryz.prog) (c := c) Tryz.underlying67 Tryz.underlying5 Tryz.underlying9 (Kd.C_below HR.out BL.out); rw [ES.out] at hst) | ((with_reducible refine gate_dst (N := 15) rfl ?_); (try (refine gate_guard (by rfl) ?_; dsimp only)); refine box_event ?hg (N := 15) ?hd (cs := #[.string s, .int .i64 0]) (t := 103) ?hr ?_; (case hd => rfl); (case hg => rfl); (case hr => first | (go_simp; done) | (go_simp; rfl)); intro g hg w4 hbox hb; have G3 := Aside0.mk hg; have B3 := Aside0.mk hbox; have L2 := Aside0.mk (blk_lt B2.out); have HT : Aside0 (Toks w w4 bo ba be g s 0 [] (.slice none 0 0)) := ⟨⟨blk_below B0.out hb, blk_below B1.out hb, blk_below B2.out hb, B3.out, Kd.R_nil _ _ _ _ _, below_step BL.out hb⟩⟩; have HP : Aside0 (Apart4 w bo ba be g) := ⟨⟨by rw [G0.out]; exact Nat.le_refl _, by rw [G1.out]; exact L0.out, by rw [G2.out]; exact L1.out, by rw [G3.out]; exact L2.out⟩⟩; clear hg hbox hb B0 B1 B2 B3 BL hst; have hc0 := HT.out.x.s; have hc1 := HT.out.x.i; have hd0 := (blk_cell HT.out.o 0).trans rfl; have hz0 := blk_frozen HT.out.o 0) | (go_at_call 84; with_reducible refine (skip_calls k s g 0 i0 HS.out H00.out _ ?lx HSK.out).mono ?_; (case lx => exact (by repeat (first | (with_reducible first | exact HT.out.x | apply Lx.drewN | apply Lx.drew)))); rintro e wk ⟨rfl, hx, hk⟩; have HT2 := Aside0.mk (Toks.lk (by repeat (first | (with_reducible first | exact HT.out | apply Toks.drewN | apply Toks.drew))) HP.out hk hx); clear hx hk HT; have HT := HT2; clear HT2; have hc0 := HT.out.x.s; have hc1 := HT.out.x.i; have hd0 := (blk_cell HT.out.o 0).trans rfl; have hz0 := blk_frozen HT.out.o 0))
      go_loopg [] k (fun kq wr => ∃ (i : Nat) (out : List S62) (v : Value), Aside0 (out.length ≤ 65536) ∧ Aside0 (i ≤ s.size) ∧ Aside0 (token_Tokens.l0 kq s i out = some r) ∧ Aside0 (Toks w wr bo ba be g s i out v))
      case atStart => exact ⟨i0, [], _, ⟨Nat.zero_le _⟩, HI0, HLP, ⟨by repeat (first | (with_reducible first | exact HT.out | apply Toks.drewN | apply Toks.drew))⟩⟩
      case round =>
        clear HLP HI0 HSK HT hc0 hc1 hd0 hz0
        obtain ⟨i, out, v, HOL, HI, HF, HT⟩ := hrel
        obtain ⟨A1, cc1, rfl⟩ := Kd.R_slice HT.out.r
        have hc0 := HT.out.x.s
        have hc1 := HT.out.x.i
        have hd0 := (blk_cell HT.out.o 0).trans rfl
        have hz0 := blk_frozen HT.out.o 0
        cases gk with
        | zero => exact absurd HF.out (by simp [token_Tokens.l0])
        | succ k2 =>
          have hf := HF.out
          have hs := HS.out
          clear HF
          unfold token_Tokens.l0 at hf
          by_cases hlt : i < s.size
          · rw [if_pos hlt] at hf
            by_cases hol : out.length < 65536
            · rw [if_pos hol] at hf
              obtain ⟨⟨kd, tx, nm, j⟩, hw, hf⟩ := Option.bind_eq_some_iff.mp hf
              have HW := Aside0.mk hw
              clear hw
              try dsimp only at hf
              by_cases hj : j ≤ s.size
              · rw [if_pos hj] at hf
                obtain ⟨j2, hsk, hf⟩ := Option.bind_eq_some_iff.mp hf
                have HSK := Aside0.mk hsk
                clear hsk
                by_cases hj2 : j2 ≤ s.size
                · rw [if_pos hj2] at hf
                  have HF := Aside0.mk hf
                  have HJ := Aside0.mk hj
                  have HJ2 := Aside0.mk hj2
                  have HLIM := Aside0.mk hol
                  have q1 : (((i : Nat) : Int) < (s.size : Int)) = True := eq_true (by omega)
                  have q2 : decide (((i : Nat) : Int) < (s.size : Int)) = true := decide_eq_true (by omega)
                  have q3 : decide (i < s.size) = true := decide_eq_true hlt
                  have p3 : decide ((out.length : Int) ≥ 65536) = false := decide_eq_false (by omega)
                  have p4 : decide (65536 ≤ (out.length : Int)) = false := decide_eq_false (by omega)
                  clear hf hj hj2 hol hlt hs
                  go_wp2
                  refine wp_region_quiet_lit (by kernel_rfl) (by kernel_rfl) ?_
                  repeat (go_big_quiet_step (fail))
                  refine wpQuiet_nil ?_
                  intro _ hw'
                  obtain ⟨nq, hw''⟩ := hw'
                  subst hw''
                  go_upto_region 12 with (first | (go_at_call 85; with_reducible refine (word_calls k2 s g i j kd tx nm HS.out _ ?lx HW.out).mono ?_; (case lx => exact (by repeat (first | (with_reducible first | exact HT.out.x | apply Lx.drewN | apply Lx.drew)))); rintro e wd ⟨rfl, hx, hk⟩; have HT2 := Aside0.mk (Toks.lk (by repeat (first | (with_reducible first | exact HT.out | apply Toks.drewN | apply Toks.drew))) HP.out hk hx); clear hx hk HT hc0 hc1 hd0 hz0; have HT := HT2; clear HT2; have hc0 := HT.out.x.s; have hc1 := HT.out.x.i; have hd0 := (blk_cell HT.out.o 0).trans rfl; have hz0 := blk_frozen HT.out.o 0) | ((with_reducible refine gate_dst (N := 7) rfl ?_); (try (refine gate_guard (by rfl) ?_; dsimp only)); refine box_event ?hg (N := 7) ?hd (cs := #[.int .i64 0, .int .i64 0, .string (⟨#[]⟩ : ByteArray), .string (⟨#[]⟩ : ByteArray)]) (t := 62) ?hr ?_; (case hd => rfl); (case hg => rfl); (case hr => first | (go_simp; done) | (go_simp; rfl)); intro bt hg w7 hbox hb; have G7 := Aside0.mk hg; have K7 := Aside0.mk (show Tk w7 bt 0 0 ⟨#[]⟩ ⟨#[]⟩ from hbox); have LT0 := Aside0.mk (show bo < bt by rw [hg]; exact blk_lt HT.out.o); have LT1 := Aside0.mk (show ba < bt by rw [hg]; exact blk_lt HT.out.a); have LT2 := Aside0.mk (show be < bt by rw [hg]; exact blk_lt HT.out.e); have LT3 := Aside0.mk (show g < bt by rw [hg]; exact blk_lt HT.out.x); have LT4 := Aside0.mk (show (Value.slice A1 out.length cc1).ownBlock ≠ some bt from fun e => by have h1 := Kd.R_lt HT.out.r _ e; rw [hg] at h1; exact Nat.lt_irrefl _ h1); have LT5 := Aside0.mk (show w.heap.size ≤ bt by rw [hg]; exact below_size HT.out.b); have HT2 := Aside0.mk (Toks.below HT.out hb); clear hg hbox hb HT hc0 hc1 hd0 hz0; have HT := HT2; clear HT2; have he0 := LT0.out; have hne : bo ≠ bt := Nat.ne_of_lt LT0.out; have hne2 : bt ≠ bo := Nat.ne_of_gt LT0.out; have hc0 := HT.out.x.s; have hc1 := HT.out.x.i; have hd0 := (blk_cell HT.out.o 0).trans rfl; have hz0 := blk_frozen HT.out.o 0; have ht0 := K7.out.c0; have ht1 := K7.out.c1; have ht2 := K7.out.c2; have ht3 := K7.out.c3; have hf0 := K7.out.fz 0; have hf1 := K7.out.fz 1; have hf2 := K7.out.fz 2; have hf3 := K7.out.fz 3))
                  have HT8 : Aside0 (Toks w ((((w7.setCell ⟨bt, 0, none⟩ (.int .i64 kd)).setCell ⟨bt, 1, none⟩ (.int .i64 (i : Int))).setCell ⟨bt, 2, none⟩ (.string tx)).setCell ⟨bt, 3, none⟩ (.string nm)) bo ba be g s j out (.slice A1 out.length cc1)) := ⟨(Toks.far (Toks.far (Toks.far (Toks.far HT.out LT5.out (Nat.ne_of_lt LT0.out) (Nat.ne_of_lt LT1.out) (Nat.ne_of_lt LT2.out) (Nat.ne_of_lt LT3.out) LT4.out _ _) LT5.out (Nat.ne_of_lt LT0.out) (Nat.ne_of_lt LT1.out) (Nat.ne_of_lt LT2.out) (Nat.ne_of_lt LT3.out) LT4.out _ _) LT5.out (Nat.ne_of_lt LT0.out) (Nat.ne_of_lt LT1.out) (Nat.ne_of_lt LT2.out) (Nat.ne_of_lt LT3.out) LT4.out _ _) LT5.out (Nat.ne_of_lt LT0.out) (Nat.ne_of_lt LT1.out) (Nat.ne_of_lt LT2.out) (Nat.ne_of_lt LT3.out) LT4.out _ _)⟩
                  have K8 : Aside0 (Tk ((((w7.setCell ⟨bt, 0, none⟩ (.int .i64 kd)).setCell ⟨bt, 1, none⟩ (.int .i64 (i : Int))).setCell ⟨bt, 2, none⟩ (.string tx)).setCell ⟨bt, 3, none⟩ (.string nm)) bt kd (i : Int) tx nm) := ⟨Tk.set3 (Tk.set2 (Tk.set1 (Tk.set0 K7.out _) _) _) _⟩
                  clear HT K7 hc0 hc1 hd0 hz0 ht0 ht1 ht2 ht3 hf0 hf1 hf2 hf3 he0
                  generalize ((((w7.setCell ⟨bt, 0, none⟩ (.int .i64 kd)).setCell ⟨bt, 1, none⟩ (.int .i64 (i : Int))).setCell ⟨bt, 2, none⟩ (.string tx)).setCell ⟨bt, 3, none⟩ (.string nm)) = w8 at HT8 K8 ⊢
                  have hd0 := (blk_cell HT8.out.o 0).trans rfl
                  have hz0 := blk_frozen HT8.out.o 0
                  have ht0 := K8.out.c0
                  have ht1 := K8.out.c1
                  have ht2 := K8.out.c2
                  have ht3 := K8.out.c3
                  go_wp2_with (first | ((with_reducible refine gate_builtin (b := .append) (xs := #[.tmp 42, .tmp 44]) rfl ?_); at_builtin; refine Kd.R_append k62 (w0 := w) w.heap.size rfl (.tmp 42) (.tmp 44) 41 62 (.agg #[.int .i64 0, .int .i64 0, .string (⟨#[]⟩ : ByteArray), .string (⟨#[]⟩ : ByteArray)]) 48 rfl Tryz.underlying41 infoT rfl (by decide) (by omega) (.slice A1 out.length cc1) out ⟨kd, (i : Int), tx, nm⟩ [.int .i64 kd, .int .i64 (i : Int), .string tx, .string nm] (fun k => k ≠ bo ∧ k ≠ ba ∧ k ≠ be ∧ k ≠ g) (fun _ => False) rfl rfl ?aP (fun _ hk => hk.elim) ?aF ?aO ?aB ?aS ?aL ?_; (case aP => exact k62_mkM _ _ _ ⟨kd, (i : Int), tx, nm⟩); (case aB => exact HT8.out.b); (case aF => exact (fun k hk => by have := blk_lt HT8.out.o; have := blk_lt HT8.out.a; have := blk_lt HT8.out.e; have := blk_lt HT8.out.x; exact ⟨by omega, by omega, by omega, by omega⟩)); (case aO => exact HT8.out.r); (case aS => exact (below_size HT8.out.b)); (case aL => have := HLIM.out; omega); intro v1 W9 ho hb hg hat; obtain ⟨A2, cc2, rfl⟩ := Kd.R_slice ho; rw [List.length_append, List.length_singleton] at ho; have HT := Aside0.mk (Toks.set HT8.out HP.out hg ho hb); have hn0 : some bo ≠ (Value.slice A1 out.length cc1).ownBlock := fun e => (HT8.out.r.1 bo e.symm).1 rfl; have hz9 := blk_frozen (blk_grown HT8.out.o hg hn0) 0; have hy9 := (blk_cell (blk_grown HT8.out.o hg hn0) 0).trans rfl; clear ho hb hg hat hn0) | (go_at_call 84; with_reducible refine (skip_calls k2 s g j j2 HS.out HJ.out _ ?lx HSK.out).mono ?_; (case lx => exact (by repeat (first | (with_reducible first | exact HT.out.x | apply Lx.drewN | apply Lx.drew)))); rintro e wk ⟨rfl, hx, hk⟩; have HT2 := Aside0.mk (Toks.lk (by repeat (first | (with_reducible first | exact HT.out | apply Toks.drewN | apply Toks.drew))) HP.out hk hx); clear hx hk HT; have HT := HT2; clear HT2; have hc0 := HT.out.x.s; have hc1 := HT.out.x.i; have hd0 := (blk_cell HT.out.o 0).trans rfl; have hz0 := blk_frozen HT.out.o 0))
                  go_roundg k2
                  case measure => omega
                  case rel => exact ⟨j2, out ++ [⟨kd, (i : Int), tx, nm⟩], _, ⟨by rw [List.length_append, List.length_singleton]; have := HLIM.out; omega⟩, HJ2, HF, ⟨by repeat (first | (with_reducible first | exact HT.out | apply Toks.drewN | apply Toks.drew))⟩⟩
                · rw [if_neg hj2] at hf
                  cases hf
              · rw [if_neg hj] at hf
                cases hf
            · rw [if_neg hol] at hf
              cases hf
          · rw [if_neg hlt] at hf
            obtain rfl := Option.some.inj hf
            have HLIM := Aside0.mk (show out.length < 1000000 by have := HOL.out; omega)
            have q1 : (((i : Nat) : Int) < (s.size : Int)) = False := eq_false (by omega)
            have q2 : decide (((i : Nat) : Int) < (s.size : Int)) = false := decide_eq_false (by omega)
            have q3 : decide (i < s.size) = false := decide_eq_false hlt
            clear hf hlt hs
            go_wp2
            refine wp_region_quiet_lit (by kernel_rfl) (by kernel_rfl) ?_
            repeat (go_big_quiet_step (fail))
            refine wpQuiet_nil ?_
            intro _ hw'
            obtain ⟨nq, hw''⟩ := hw'
            subst hw''
            go_wp2
            refine Code.wp_mono QN.to ?_
            have HT3 : Aside0 (Toks w (wr.drewN nq).drew bo ba be g s i out (.slice A1 out.length cc1)) := ⟨(HT.out.drewN nq).drew⟩
            refine start_ (n := 12) (S := (fun w' => w'.cell? ⟨bo, 0, none⟩ = some (.slice A1 out.length cc1) ∧ w'.cell? ⟨g, 0, none⟩ = some (.string s))) (ds := [9, 10, 11]) #[false, false, false, false, false, false, false, false, false, false, false, false] (by kernel_rfl) rfl rfl ⟨(blk_cell HT3.out.o 0).trans rfl, HT3.out.x.s⟩ (fun hHeld => ?_)
            refine with_tabW token_Tokens.tab13 token_Tokens.bits13 (fun HT_ HW_ => ?_)
            generalize (wr.drewN nq).drew = W3 at HT3 hHeld ⊢
            refine tas_ 0 (some 46) #[true, false, false, false, false, false, false, false, false, false, false, false] rfl rfl HT_.out HW_.out hHeld ?_
            refine pus_ 1 (some 47) #[true, true, false, false, false, false, false, false, false, false, false, false] rfl rfl HT_.out ?_
            refine pus_ 2 (some 48) #[true, true, true, false, false, false, false, false, false, false, false, false] rfl rfl HT_.out ?_
            refine pus_ 3 (some 49) #[true, true, true, true, false, false, false, false, false, false, false, false] rfl rfl HT_.out ?_
            refine tas_ 4 (some 50) #[true, true, true, true, true, false, false, false, false, false, false, false] rfl rfl HT_.out HW_.out hHeld ?_
            refine pus_ 5 (some 51) #[true, true, true, true, true, true, false, false, false, false, false, false] rfl rfl HT_.out ?_
            refine pus_ 6 (some 52) #[true, true, true, true, true, true, true, false, false, false, false, false] rfl rfl HT_.out ?_
            refine one_ (i := 7) (N := (some 53)) #[true, true, true, true, true, true, true, true, false, false, false, false] rfl rfl (one_of HT_.out (by kernel_rfl)) (by decide) (fun K hK => ?_)
            refine value_ (w1 := ?_) (v := ?_) (by rfl) rfl ?_ ?_
            rotate_left 2
            ·go_simp
             constructor
             ·rfl
             ·rfl
            refine hK.out _ _ ⟨(blk_cell (blk_alloc HT3.out.o _) 0).trans rfl, (Lx.below HT3.out.x (below_alloc (Below.refl _ _) _)).s⟩ (fun hHeld => ?_)
            clear hK K
            refine norm_ (a' := ?_) ?_ ?_
            rotate_left
            ·show Act.put _ (some 53) _ = _
             simp only [Act.put, List.setIfInBounds_toArray, List.set_cons_zero, List.set_cons_succ, i64_w, i32_w]
             rfl
            refine one_ (i := 8) (N := (some 54)) #[true, true, true, true, true, true, true, true, true, false, false, false] rfl rfl (one_of HT_.out (by kernel_rfl)) (by decide) (fun K hK => ?_)
            refine Kd.R_append_step k62 (w0 := w) w.heap.size (by rfl) (.tmp 46) (.tmp 53) 41 62 (.agg #[.int .i64 0, .int .i64 0, .string (⟨#[]⟩ : ByteArray), .string (⟨#[]⟩ : ByteArray)]) 48 rfl Tryz.underlying41 infoT rfl (by decide) (by omega) (.slice A1 out.length cc1) out ⟨8, (s.size : Int), ⟨#[]⟩, ⟨#[]⟩⟩ [.int .i64 8, .int .i64 (s.size : Int), .string (⟨#[]⟩ : ByteArray), .string (⟨#[]⟩ : ByteArray)] (fun k => k ≠ bo ∧ k ≠ ba ∧ k ≠ be ∧ k ≠ g) (fun _ => False) rfl rfl ?aP (fun _ hk => hk.elim) ?aF ?aO ?aB ?aS ?aL ?_
            (case aP => exact k62_mkM _ _ _ ⟨8, (s.size : Int), ⟨#[]⟩, ⟨#[]⟩⟩)
            (case aB => exact HT3.out.b)
            (case aF => exact (fun k hk => by have := blk_lt HT3.out.o; have := blk_lt HT3.out.a; have := blk_lt HT3.out.e; have := blk_lt HT3.out.x; exact ⟨by omega, by omega, by omega, by omega⟩))
            (case aO => exact HT3.out.r)
            (case aS => exact (below_size HT3.out.b))
            (case aL => have := HLIM.out; omega)
            intro v1 W4 ho hb hg hat
            obtain ⟨A2, cc2, rfl⟩ := Kd.R_slice ho
            rw [List.length_append, List.length_singleton] at ho
            have HO := Aside0.mk ho
            have HT4 := Aside0.mk (Toks.set HT3.out HP.out hg HO.out hb)
            have hn0 : some bo ≠ (Value.slice A1 out.length cc1).ownBlock := fun e => (HT3.out.r.1 bo e.symm).1 rfl
            have hn1 : some ba ≠ (Value.slice A1 out.length cc1).ownBlock := fun e => (HT3.out.r.1 ba e.symm).2.1 rfl
            have hn2 : some be ≠ (Value.slice A1 out.length cc1).ownBlock := fun e => (HT3.out.r.1 be e.symm).2.2.1 rfl
            have hn3 : some g ≠ (Value.slice A1 out.length cc1).ownBlock := fun e => (HT3.out.r.1 g e.symm).2.2.2 rfl
            have HB0 := Aside0.mk (blk_grown HT3.out.o hg hn0)
            have HB1 := Aside0.mk (blk_grown HT3.out.a hg hn1)
            have HB2 := Aside0.mk (blk_grown HT3.out.e hg hn2)
            have HB3 : Aside0 (Lx W4 g s i) := ⟨blk_grown HT3.out.x hg hn3⟩
            have hz0 := blk_frozen HB0.out 0
            have hz1 := blk_frozen HB1.out 0
            have hz2 := blk_frozen HB2.out 0
            have hy0 : W4.cell? ⟨bo, 0, none⟩ = some (.slice A1 out.length cc1) := (blk_cell HB0.out 0).trans rfl
            have hy1 : W4.cell? ⟨ba, 0, none⟩ = some (.int .i64 0) := (blk_cell HB1.out 0).trans rfl
            have hy2 : W4.cell? ⟨be, 0, none⟩ = some (.int .i64 0) := (blk_cell HB2.out 0).trans rfl
            have e0 : ba ≠ bo := by have := HP.out.l1; omega
            have e1 : be ≠ bo := by have := HP.out.l1; have := HP.out.l2; omega
            have e2 : be ≠ ba := by have := HP.out.l2; omega
            have e3 : bo ≠ ba := e0.symm
            have e4 : bo ≠ be := e1.symm
            have e5 : ba ≠ be := e2.symm
            clear hb hg hat hn0 hn1 hn2 hn3 ho
            refine hK.out _ _ ⟨(blk_cell HB0.out 0).trans rfl, HB3.out.s⟩ (fun hHeld => ?_)
            clear hK K
            refine norm_ (a' := ?_) ?_ ?_
            rotate_left
            ·show Act.put _ (some 54) _ = _
             simp only [Act.put, List.setIfInBounds_toArray, List.set_cons_zero, List.set_cons_succ, i64_w, i32_w]
             rfl
            refine last_ (i := 9) (N := none) #[true, true, true, true, true, true, true, true, true, true, false, false] rfl rfl (one_of HT_.out (by kernel_rfl)) (by decide) (fun K hK => ?_)
            refine skip_ (w1 := ?_) (by rfl) rfl ?_ ?_
            rotate_left
            ·go_simp
             rfl
            refine hK.out _ _ ?_
            clear hK K
            refine last_ (i := 10) (N := none) #[true, true, true, true, true, true, true, true, true, true, true, false] rfl rfl (one_of HT_.out (by kernel_rfl)) (by decide) (fun K hK => ?_)
            refine skip_ (w1 := ?_) (by rfl) rfl ?_ ?_
            rotate_left
            ·go_simp
             rfl
            refine hK.out _ _ ?_
            clear hK K
            refine last_ (i := 11) (N := none) #[true, true, true, true, true, true, true, true, true, true, true, true] rfl rfl (one_of HT_.out (by kernel_rfl)) (by decide) (fun K hK => ?_)
            refine skip_ (w1 := ?_) (by rfl) rfl ?_ ?_
            rotate_left
            ·go_simp
             rfl
            refine hK.out _ _ ?_
            clear hK K
            refine done_ (done_of HT_.out (by kernel_rfl)) ?_
            dsimp only [QN]
            go_wp2
            refine leaves_cons (f := 83) (args := #[.pointer (some ⟨bo, 0, none⟩), .pointer (some ⟨ba, 0, none⟩), .pointer (some ⟨be, 0, none⟩)]) (by simp) (by simp [go_sem]) ?_
            refine (tokens_idle bo ba be _).mono ?_
            rintro e u' w'' ⟨rfl, rfl, rfl⟩
            obtain ⟨F0, F1, F2, FR, FB⟩ := Toks.fin HT4.out HP.out
            refine ⟨.tuple #[.slice A2 (out.length + 1) cc2, .int .i64 0, .int .i64 0], ?_, ⟨_, rfl, FR, FB⟩⟩
            simp [results, Tryz.results48, go_sem, F0, F1, F2]
    · rw [if_neg hi0] at h
      cases h
  · rw [if_neg hl] at h
    cases h
end Go.Proofs.YtofdhdafabmhmaaGreatDoor.Giv
end
