import Derived.Test.YtfccpnpocfjbcaaPTkx2
import Derived.Test.YtfccpnpocfjbcaaPTkx5
import Derived.Test.YtfccpnpocfjbcaaPTkx6
import Derived.Test.YtfccpnpocfjbcaaPTkx8
import Derived.Test.YtfccpnpocfjbcaaSq
import Derived.BigRegion
import Derived.BigQuiet
import Derived.Deep.QuietTactic
import Derived.Test.YtfccpnpocfjbcaaLex6q
namespace Go.Proofs.Ytfccpnpocfjbcaa.Giv
open Go.RowKit Go.Proofs.YtfccpnpocfjbcaaW.PrintWords Go.Proofs.YtfccpnpocfjbcaaW.PrintLast Go.Proofs.YtfccpnpocfjbcaaW.PrintMore Go.Proofs.Ytfccpnpocfjbcaa.PTk
open Go.Proofs.Ytfccpnpocfjbcaa.Opn Go.BigFrame
set_option linter.unusedVariables false
set_option linter.unusedSimpArgs false
/-- A word's block. -/
def Tk (W : World) (b : Nat) (k a : Int) (t n : ByteArray) : Prop := W.heap[b]? = some (.cells #[.int .i64 k, .int .i64 a, .string t, .string n] 33 (0, 0))
section
variable {W W' : World} {b g B : Nat} {k a : Int} {t n : ByteArray}
theorem Tk.c0 (h : Tk W b k a t n) : W.cell? ⟨b, 0, none⟩ = some (.int .i64 k) := (blk_cell h 0).trans rfl
theorem Tk.c1 (h : Tk W b k a t n) : W.cell? ⟨b, 1, none⟩ = some (.int .i64 a) := (blk_cell h 1).trans rfl
theorem Tk.c2 (h : Tk W b k a t n) : W.cell? ⟨b, 2, none⟩ = some (.string t) := (blk_cell h 2).trans rfl
theorem Tk.c3 (h : Tk W b k a t n) : W.cell? ⟨b, 3, none⟩ = some (.string n) := (blk_cell h 3).trans rfl
theorem Tk.fz (h : Tk W b k a t n) (i : Nat) : W.frozen? ⟨b, i, none⟩ = false := blk_frozen h i
theorem Tk.lt (h : Tk W b k a t n) : b < W.heap.size := (Array.getElem?_eq_some_iff.1 h).1
theorem Tk.drewN (h : Tk W b k a t n) (m : Nat) : Tk (W.drewN m) b k a t n := h
theorem Tk.drew (h : Tk W b k a t n) : Tk W.drew b k a t n := h
theorem Tk.call (h : Tk W b k a t n) (hb : Below W.heap.size W W') : Tk W' b k a t n := blk_below h hb
theorem Tk.lk (h : Tk W b k a t n) (hk : Lk g W W') (hg : b ≠ g) : Tk W' b k a t n := hk.at h hg
theorem Tk.far (h : Tk W b k a t n) (hg : b ≠ g) (o : Nat) (v : Value) : Tk (W.setCell ⟨g, o, none⟩ v) b k a t n := blk_far h (show b ≠ g from hg) _
theorem Tk.set0 (h : Tk W b k a t n) (v : Int) : Tk (W.setCell ⟨b, 0, none⟩ (.int .i64 v)) b v a t n := blk_put h 0 _ rfl
theorem Tk.set1 (h : Tk W b k a t n) (v : Int) : Tk (W.setCell ⟨b, 1, none⟩ (.int .i64 v)) b k v t n := blk_put h 1 _ rfl
theorem Tk.set2 (h : Tk W b k a t n) (v : ByteArray) : Tk (W.setCell ⟨b, 2, none⟩ (.string v)) b k a v n := blk_put h 2 _ rfl
theorem Tk.set3 (h : Tk W b k a t n) (v : ByteArray) : Tk (W.setCell ⟨b, 3, none⟩ (.string v)) b k a t v := blk_put h 3 _ rfl
theorem Lx.far {s : ByteArray} {i : Nat} (h : Lx W g s i) (hb : g ≠ b) (o : Nat) (v : Value) : Lx (W.setCell ⟨b, o, none⟩ v) g s i := blk_far h (show g ≠ b from hb) _
theorem tk_far (hg : b ≠ g) {o : Nat} {v : Value} (h : Tk W b k a t n) : Tk (W.setCell ⟨g, o, none⟩ v) b k a t n := h.far hg o v
theorem lx_far {s : ByteArray} {i : Nat} (hb : g ≠ b) {o : Nat} {v : Value} (h : Lx W g s i) : Lx (W.setCell ⟨b, o, none⟩ v) g s i := h.far hb o v
theorem Lk.setN {w : World} (h : Lk g w W) (hb : w.heap.size ≤ b) (o : Nat) (v : Value) : Lk g w (W.setCell ⟨b, o, none⟩ v) :=
  ⟨h.os, h.tape, h.output, by simpa [World.setCell] using h.size, fun j hj hg => (Below.heap_setCell W _ v j (show j ≠ b by omega)).trans (h.heap j hj hg)⟩
theorem lk_setN {w : World} (hb : w.heap.size ≤ b) {o : Nat} {v : Value} (h : Lk g w W) : Lk g w (W.setCell ⟨b, o, none⟩ v) := h.setN hb o v
end
/-- The next word: its kind, its meaning, its number, and where it ends (a string, what is wrong: none). -/
def wordF (k : Nat) (s : ByteArray) (i : Nat) : Option (Int × ByteArray × ByteArray × Nat) := if i < s.size then ((number_Scan.f (s.extract i s.size)).bind fun n =>
    if n > 0 then (if i + n.toNat ≤ s.size then ((isF token_lexer_word_1.f s (i + n.toNat)).bind fun p => if p = true then some (4, ⟨#[]⟩, s.extract i (i + n.toNat), i + n.toNat + 1)
      else ((begF k s (i + n.toNat)).bind fun b => if b = true then ((identF k s (i + n.toNat) []).bind fun t => if t.1.length ≤ 64 ∧ t.2 ≤ s.size then some (5, ⟨t.1.toArray⟩, s.extract i (i + n.toNat), t.2) else none) else some (3, ⟨#[]⟩, s.extract i (i + n.toNat), i + n.toNat))) else none)
    else ((begF k s i).bind fun b => if b = true then ((identF k s i []).bind fun t => if t.1.length ≤ 64 ∧ t.2 ≤ s.size then ((isF token_lexer_word_2.f s t.2).bind fun p => if p = true then some (2, ⟨t.1.toArray⟩, ⟨#[]⟩, t.2 + 1) else some (1, ⟨t.1.toArray⟩, ⟨#[]⟩, t.2)) else none)
      else (if bt s (i : Nat) = 34 ∨ bt s (i : Nat) = 39 then ((quotF k s (i + 1) [] (bt s (i : Nat))).bind fun t => if t.1.length ≤ 8192 ∧ t.2 ≤ s.size then some (6, ⟨t.1.toArray⟩, ⟨#[]⟩, t.2) else none) else ((strings_IndexByte.f (⟨#[44, 47, 58, 59, 123, 125, 91, 93, 40, 41]⟩ : ByteArray) (bt s (i : Nat))).bind fun q => if q ≥ 0 then some (7, s.extract i (i + 1), ⟨#[]⟩, i + 1) else none)))) else none
theorem wordF.mono : ∀ s i k, LeO (wordF k s i) (wordF (k + 1) s i) := by
  intro s i k
  unfold wordF
  repeat' first
      | (with_reducible exact begF.mono _ _ _)
      | (with_reducible exact identF.mono _ _ _ _)
      | (with_reducible exact quotF.mono _ _ _ _ _)
      | (with_reducible exact LeO.refl _)
      | (with_reducible exact LeO.none _)
      | (with_reducible refine LeO.ite ?_ ?_)
      | (with_reducible refine LeO.bind ?_ (fun _ => ?_))
def lexer_word.T4 : Bool × List (List Nat × List Nat) := (true, [([], []), ([0], [0]), ([1], [1]), ([2], [2]), ([], []), ([4], [4]), ([5], [5]), ([6], [6]), ([3, 7], [3, 7]), ([8], [8]), ([9, 9, 0, 1, 2, 3, 4, 5, 6, 7, 8, 9], [9])])
def lexer_word.B4 : List Nat := [0, 1, 3, 7, 0, 16, 48, 112, 255, 511, 1023]
theorem lexer_word.tab4 : rtab .any (opsOf Try.f28 4) = lexer_word.T4 := by kernel_rfl
theorem lexer_word.bits4 : waitsOk lexer_word.T4.2 lexer_word.B4 = true := by kernel_rfl
set_option maxHeartbeats 16000000 in
set_option maxRecDepth 100000 in
theorem word_calls (k : Nat) (s : ByteArray) (g i j : Nat) (kd : Int) (tx nm : ByteArray) (hs : s.size ≤ 140737488351232) (w : World) (h : Lx w g s i) (hf : wordF k s i = some (kd, tx, nm, j)) :
    Calls Try.prog 28 #[.pointer (some ⟨g, 0, none⟩)] w fun e w' => e = .returned (.agg #[.int .i64 kd, .int .i64 (i : Int), .string tx, .string nm]) ∧ Lx w' g s j ∧ Lk g w w' := by
  have hu := Try.underlying47
  have hut := Try.underlying9
  have huT := Try.underlying33
  have HS := Aside0.mk hs
  have HX := Aside0.mk h
  have HG := Aside0.mk (Array.getElem?_eq_some_iff.1 h).1
  clear h
  unfold wordF at hf
  by_cases hlt : i < s.size
  · rw [if_pos hlt] at hf
    obtain ⟨n, hn, hf⟩ := Option.bind_eq_some_iff.mp hf
    have A1 := Aside0.mk hn
    clear hn
    have q5 : ((i : Int) ≤ (s.size : Int)) = True := eq_true (by omega)
    have q0 : (0 ≤ (i : Int)) = True := eq_true (by omega)
    have q1 : ((i : Int) < (s.size : Int)) = True := eq_true (by omega)
    have q2 : decide ((i : Int) < (s.size : Int)) = true := decide_eq_true (by omega)
    have q3 : decide (i < s.size) = true := decide_eq_true hlt
    have q4 : (i < s.size) = True := eq_true hlt
    have hx : ∀ h : i < s.size, ((s[i].toNat : Nat) : Int) = bt s (i : Nat) := fun h => bt_at s (i : Int) (by simpa using h)
    have HLT := Aside0.mk hlt
    have HWI := Aside0.mk (show IntKind.i64.wrap (i : Int) = (i : Int) from wrapE i 0 (by omega))
    have HII := Aside0.mk (show i ≤ s.size by omega)
    by_cases h1 : n > 0
    · rw [if_pos h1] at hf
      have p1 : decide (n > 0) = true := decide_eq_true h1
      have p2 : decide (0 < n) = true := decide_eq_true h1
      by_cases h2 : i + n.toNat ≤ s.size
      · rw [if_pos h2] at hf
        obtain ⟨m, hm⟩ : ∃ m, i + n.toNat = m := ⟨_, rfl⟩
        have hwn : IntKind.i64.wrap ((i : Int) + n) = (m : Int) := by rw [i64_w]; unfold wrap64; omega
        have hwn2 : wrap64 ((i : Int) + n) = (m : Int) := by unfold wrap64; omega
        have q6 : ((i : Int) ≤ (m : Int)) = True := eq_true (by omega)
        have q7 : ((m : Int) ≤ (s.size : Int)) = True := eq_true (by omega)
        have q8 : (i ≤ m) = True := eq_true (by omega)
        have q9 : (m ≤ s.size) = True := eq_true (by omega)
        have HM := Aside0.mk (show m ≤ s.size by omega)
        rw [hm] at hf
        clear hlt hs h1 h2 hm
        go_enter Try.func28, Try.ntmps28
        go_wp2_with (first | ((with_reducible refine gate_dst (N := 2) rfl ?_); (try (refine gate_guard (by rfl) ?_; dsimp only)); refine box_event ?hg (N := 2) ?hd (cs := #[.int .i64 0, .int .i64 0, .string (⟨#[]⟩ : ByteArray), .string (⟨#[]⟩ : ByteArray)]) (t := 33) ?hr ?_; (case hd => rfl); (case hg => rfl); (case hr => first | (go_simp; done) | (go_simp; rfl)); intro b2 hg w2 hbox hb; have HG2 := Aside0.mk hg; have K2 := Aside0.mk (show Tk w2 b2 0 0 ⟨#[]⟩ ⟨#[]⟩ from hbox); have HX2 := Aside0.mk (Lx.below HX.out hb); have HK2 := Aside0.mk (Lk.of_below (g := g) hb); clear hg hbox hb HX; have HX := HX2; have HK := HK2; clear HX2 HK2; have hc0 := HX.out.s; have hc1 := HX.out.i; have hz1 := HX.out.fz) | ((with_reducible refine gate_dst (N := 3) rfl ?_); (try (refine gate_guard (by rfl) ?_; dsimp only)); refine box_event ?hg (N := 3) ?hd (cs := #[.int .i64 0, .int .i64 0, .string (⟨#[]⟩ : ByteArray), .string (⟨#[]⟩ : ByteArray)]) (t := 33) ?hr ?_; (case hd => rfl); (case hg => rfl); (case hr => first | (go_simp; done) | (go_simp; rfl)); intro b3 hg w3 hbox hb; have HG3 := Aside0.mk hg; have K2L := Aside0.mk (Tk.lt K2.out); have K3 := Aside0.mk (show Tk w3 b3 0 0 ⟨#[]⟩ ⟨#[]⟩ from hbox); have HX2 := Aside0.mk (Lx.below HX.out hb); have HK2 := Aside0.mk (Lk.call HK.out hb); have K22 := Aside0.mk (Tk.call K2.out hb); clear hg hbox hb HX HK K2; have HX := HX2; have HK := HK2; have K2 := K22; clear HX2 HK2 K22; have ht0 := K3.out.c0; have ht1 := K3.out.c1; have ht2 := K3.out.c2; have ht3 := K3.out.c3; have hf0 := K3.out.fz 0; have hf1 := K3.out.fz 1; have hf2 := K3.out.fz 2; have hf3 := K3.out.fz 3))
        have HS2 := Aside0.mk (show w.heap.size ≤ b2 by rw [HG2.out]; exact Nat.le_refl _)
        have HS3 := Aside0.mk (show b2 < b3 by rw [HG3.out]; exact K2L.out)
        have N1 := Aside0.mk (show g ≠ b2 by have := HS2.out; have := HG.out; omega)
        have N2 := Aside0.mk (show g ≠ b3 by have := HS2.out; have := HS3.out; have := HG.out; omega)
        have N3 := Aside0.mk (show b2 ≠ b3 by have := HS3.out; omega)
        have HB3 := Aside0.mk (show w.heap.size ≤ b3 by have := HS2.out; have := HS3.out; omega)
        have HX4 : Aside0 (Lx ((((w3.setCell ⟨b3, 0, none⟩ (.int .i64 0)).setCell ⟨b3, 1, none⟩ (.int .i64 (i : Int))).setCell ⟨b3, 2, none⟩ (.string (⟨#[]⟩ : ByteArray))).setCell ⟨b3, 3, none⟩ (.string (⟨#[]⟩ : ByteArray))) g s i) := ⟨Lx.far (Lx.far (Lx.far (Lx.far HX.out N2.out _ _) N2.out _ _) N2.out _ _) N2.out _ _⟩
        have HK4 : Aside0 (Lk g w ((((w3.setCell ⟨b3, 0, none⟩ (.int .i64 0)).setCell ⟨b3, 1, none⟩ (.int .i64 (i : Int))).setCell ⟨b3, 2, none⟩ (.string (⟨#[]⟩ : ByteArray))).setCell ⟨b3, 3, none⟩ (.string (⟨#[]⟩ : ByteArray)))) := ⟨Lk.setN (Lk.setN (Lk.setN (Lk.setN HK.out HB3.out _ _) HB3.out _ _) HB3.out _ _) HB3.out _ _⟩
        have K24 : Aside0 (Tk ((((w3.setCell ⟨b3, 0, none⟩ (.int .i64 0)).setCell ⟨b3, 1, none⟩ (.int .i64 (i : Int))).setCell ⟨b3, 2, none⟩ (.string (⟨#[]⟩ : ByteArray))).setCell ⟨b3, 3, none⟩ (.string (⟨#[]⟩ : ByteArray))) b2 0 0 ⟨#[]⟩ ⟨#[]⟩) := ⟨Tk.far (Tk.far (Tk.far (Tk.far K2.out N3.out _ _) N3.out _ _) N3.out _ _) N3.out _ _⟩
        have K34 : Aside0 (Tk ((((w3.setCell ⟨b3, 0, none⟩ (.int .i64 0)).setCell ⟨b3, 1, none⟩ (.int .i64 (i : Int))).setCell ⟨b3, 2, none⟩ (.string (⟨#[]⟩ : ByteArray))).setCell ⟨b3, 3, none⟩ (.string (⟨#[]⟩ : ByteArray))) b3 0 (i : Int) ⟨#[]⟩ ⟨#[]⟩) := ⟨Tk.set3 (Tk.set2 (Tk.set1 (Tk.set0 K3.out _) _) _) _⟩
        clear HX HK K2 K3 hc0 hc1 hz1 ht0 ht1 ht2 ht3 hf0 hf1 hf2 hf3
        generalize ((((w3.setCell ⟨b3, 0, none⟩ (.int .i64 0)).setCell ⟨b3, 1, none⟩ (.int .i64 (i : Int))).setCell ⟨b3, 2, none⟩ (.string (⟨#[]⟩ : ByteArray))).setCell ⟨b3, 3, none⟩ (.string (⟨#[]⟩ : ByteArray))) = w4 at HX4 HK4 K24 K34 ⊢
        have hc0 := HX4.out.s
        have hc1 := HX4.out.i
        go_wp2
        refine wp_region_quiet_lit (by kernel_rfl) (by kernel_rfl) ?_
        repeat (go_big_quiet_step (fail))
        refine wpQuiet_nil ?_
        intro _ hw'
        obtain ⟨nq, hw''⟩ := hw'
        subst hw''
        go_wp2
        have HX5 : Aside0 (Lx (w4.drewN nq).drew g s i) := ⟨HX4.out⟩
        have HK5 : Aside0 (Lk g w (w4.drewN nq).drew) := ⟨(HK4.out.drewN nq).drew⟩
        have K25 : Aside0 (Tk (w4.drewN nq).drew b2 0 0 ⟨#[]⟩ ⟨#[]⟩) := ⟨K24.out⟩
        have K35 : Aside0 (Tk (w4.drewN nq).drew b3 0 (i : Int) ⟨#[]⟩ ⟨#[]⟩) := ⟨K34.out⟩
        clear HX4 HK4 K24 K34 hc0 hc1
        refine start_ (n := 11) (S := (fun w' => w'.cell? ⟨g, 0, none⟩ = some (.string s) ∧ w'.cell? ⟨g, 1, none⟩ = some (.int .i64 (i : Int)))) (ds := []) #[false, false, false, false, false, false, false, false, false, false, false] (by kernel_rfl) rfl rfl ⟨HX5.out.s, HX5.out.i⟩ (fun hHeld => ?_)
        refine with_tabW lexer_word.tab4 lexer_word.bits4 (fun HT_ HW_ => ?_)
        generalize (w4.drewN nq).drew = w5 at HX5 HK5 K25 K35 hHeld ⊢
        refine pure_ (i := 0) (N := (some 21)) (v := ?_) (a' := ?_) #[true, false, false, false, false, false, false, false, false, false, false] rfl rfl (any_of HT_.out (by kernel_rfl)) (fun _ _ _ h => h) (Or.inl ⟨by rfl, ?_⟩) ?_ ?_
        rotate_left
        ·intro w'
         go_simp
         with_reducible rfl
        rotate_left
        ·simp only [Act.put, List.setIfInBounds_toArray, List.set_cons_zero, List.set_cons_succ, i64_w, i32_w]
         rfl
        refine pure_ (i := 1) (N := (some 22)) (v := ?_) (a' := ?_) #[true, true, false, false, false, false, false, false, false, false, false] rfl rfl (any_of HT_.out (by kernel_rfl)) (fun _ _ _ h => h) (Or.inl ⟨by rfl, ?_⟩) ?_ ?_
        rotate_left
        ·intro w'
         go_simp
         with_reducible rfl
        rotate_left
        ·simp only [Act.put, List.setIfInBounds_toArray, List.set_cons_zero, List.set_cons_succ, i64_w, i32_w]
         rfl
        refine pure_ (i := 2) (N := (some 23)) (v := ?_) (a' := ?_) #[true, true, true, false, false, false, false, false, false, false, false] rfl rfl (any_of HT_.out (by kernel_rfl)) (fun _ _ _ h => h) (Or.inl ⟨by rfl, ?_⟩) ?_ ?_
        rotate_left
        ·intro w'
         go_simp
         with_reducible rfl
        rotate_left
        ·simp only [Act.put, List.setIfInBounds_toArray, List.set_cons_zero, List.set_cons_succ, i64_w, i32_w]
         rfl
        refine take_ (i := 3) (N := (some 24)) (v := ?_) (a' := ?_) #[true, true, true, true, false, false, false, false, false, false, false] rfl rfl (take_ofW HT_.out HW_.out (by kernel_rfl)) (fun _ _ _ h => h) (Or.inl ⟨by rfl, ?_⟩) hHeld ?_ ?_
        rotate_left
        ·rintro w' ⟨s0, s1⟩
         go_simp
         with_reducible rfl
        rotate_left
        ·simp only [Act.put, List.setIfInBounds_toArray, List.set_cons_zero, List.set_cons_succ, i64_w, i32_w]
         rfl
        refine pure_ (i := 4) (N := (some 25)) (v := ?_) (a' := ?_) #[true, true, true, true, true, false, false, false, false, false, false] rfl rfl (any_of HT_.out (by kernel_rfl)) (fun _ _ _ h => h) (Or.inl ⟨by rfl, ?_⟩) ?_ ?_
        rotate_left
        ·intro w'
         go_simp
         with_reducible rfl
        rotate_left
        ·simp only [Act.put, List.setIfInBounds_toArray, List.set_cons_zero, List.set_cons_succ, i64_w, i32_w]
         rfl
        refine pure_ (i := 5) (N := (some 26)) (v := ?_) (a' := ?_) #[true, true, true, true, true, true, false, false, false, false, false] rfl rfl (any_of HT_.out (by kernel_rfl)) (fun _ _ _ h => h) (Or.inl ⟨by rfl, ?_⟩) ?_ ?_
        rotate_left
        ·intro w'
         go_simp
         with_reducible rfl
        rotate_left
        ·simp only [Act.put, List.setIfInBounds_toArray, List.set_cons_zero, List.set_cons_succ, i64_w, i32_w]
         rfl
        refine pure_ (i := 6) (N := (some 27)) (v := ?_) (a' := ?_) #[true, true, true, true, true, true, true, false, false, false, false] rfl rfl (any_of HT_.out (by kernel_rfl)) (fun _ _ _ h => h) (Or.inl ⟨by rfl, ?_⟩) ?_ ?_
        rotate_left
        ·intro w'
         go_simp
         with_reducible rfl
        rotate_left
        ·simp only [Act.put, List.setIfInBounds_toArray, List.set_cons_zero, List.set_cons_succ, i64_w, i32_w]
         rfl
        refine take_ (i := 7) (N := (some 28)) (v := ?_) (a' := ?_) #[true, true, true, true, true, true, true, true, false, false, false] rfl rfl (take_ofW HT_.out HW_.out (by kernel_rfl)) (fun _ _ _ h => h) (Or.inl ⟨by rfl, ?_⟩) hHeld ?_ ?_
        rotate_left
        ·rintro w' ⟨s0, s1⟩
         go_simp
         with_reducible rfl
        rotate_left
        ·simp only [Act.put, List.setIfInBounds_toArray, List.set_cons_zero, List.set_cons_succ, i64_w, i32_w]
         rfl
        refine pure_ (i := 8) (N := (some 29)) (v := ?_) (a' := ?_) #[true, true, true, true, true, true, true, true, true, false, false] rfl rfl (any_of HT_.out (by kernel_rfl)) (fun _ _ _ h => h) (Or.inl ⟨by rfl, ?_⟩) ?_ ?_
        rotate_left
        ·intro w'
         go_simp
         with_reducible rfl
        rotate_left
        ·simp only [Act.put, List.setIfInBounds_toArray, List.set_cons_zero, List.set_cons_succ, i64_w, i32_w]
         rfl
        refine one_ (i := 9) (N := (some 30)) #[true, true, true, true, true, true, true, true, true, true, false] rfl rfl (one_of HT_.out (by kernel_rfl)) (by decide) (fun K hK => ?_)
        refine goes_ Try.func42 (by kernel_rfl) rfl #[.string (s.extract i s.size)] (by rfl) rfl rfl goa_ ?_
        refine (number_Scan.calls _ n _ A1.out).mono ?_
        rintro e w6 ⟨rfl, hb⟩
        refine ⟨_, rfl, ?_⟩
        have HX := Aside0.mk (HX5.out.below hb)
        have HK := Aside0.mk (HK5.out.call hb)
        have K2 := Aside0.mk (K25.out.call hb)
        have K3 := Aside0.mk (K35.out.call hb)
        clear hb HX5 HK5 K25 K35
        refine hK.out _ _ ⟨HX.out.s, HX.out.i⟩ (fun hHeld => ?_)
        clear hK K
        refine norm_ (a' := ?_) ?_ ?_
        rotate_left
        ·show Act.put _ (some 30) _ = _
         simp only [Act.put, List.setIfInBounds_toArray, List.set_cons_zero, List.set_cons_succ, i64_w, i32_w]
         rfl
        refine pure_ (i := 10) (N := (some 6)) (v := ?_) (a' := ?_) #[true, true, true, true, true, true, true, true, true, true, true] rfl rfl (any_of HT_.out (by kernel_rfl)) (fun _ _ _ h => h) (Or.inl ⟨by rfl, ?_⟩) ?_ ?_
        rotate_left
        ·intro w'
         go_simp
         with_reducible rfl
        rotate_left
        ·simp only [Act.put, List.setIfInBounds_toArray, List.set_cons_zero, List.set_cons_succ, i64_w, i32_w]
         rfl
        refine done_ (done_of HT_.out (by kernel_rfl)) ?_
        clear hHeld HT_ HW_
        have hc0 := HX.out.s
        have hc1 := HX.out.i
        have hz1 := HX.out.fz
        have ht0 := K3.out.c0
        have ht1 := K3.out.c1
        have ht2 := K3.out.c2
        have ht3 := K3.out.c3
        have hf0 := K3.out.fz 0
        have hf1 := K3.out.fz 1
        have hf2 := K3.out.fz 2
        have hf3 := K3.out.fz 3
        have hne := N2.out
        have hne2 := N2.out.symm
        have hne3 := N1.out
        have hne4 := N1.out.symm
        have hne5 := N3.out
        have hne6 := N3.out.symm
        go_wp2
        go_region
        have HXn : Aside0 (Lx (((w6.setCell ⟨b3, 0, none⟩ (.int .i64 3)).setCell ⟨b3, 3, none⟩ (.string (s.extract i m))).drew) g s i) := ⟨(Lx.far (Lx.far HX.out N2.out _ _) N2.out _ _).drew⟩
        have HKn : Aside0 (Lk g w (((w6.setCell ⟨b3, 0, none⟩ (.int .i64 3)).setCell ⟨b3, 3, none⟩ (.string (s.extract i m))).drew)) := ⟨(Lk.setN (Lk.setN HK.out HB3.out _ _) HB3.out _ _).drew⟩
        have K2n : Aside0 (Tk (((w6.setCell ⟨b3, 0, none⟩ (.int .i64 3)).setCell ⟨b3, 3, none⟩ (.string (s.extract i m))).drew) b2 0 0 ⟨#[]⟩ ⟨#[]⟩) := ⟨(Tk.far (Tk.far K2.out N3.out _ _) N3.out _ _).drew⟩
        have K3n : Aside0 (Tk (((w6.setCell ⟨b3, 0, none⟩ (.int .i64 3)).setCell ⟨b3, 3, none⟩ (.string (s.extract i m))).drew) b3 3 (i : Int) ⟨#[]⟩ (s.extract i m)) := ⟨(Tk.set3 (Tk.set0 K3.out _) _).drew⟩
        clear HX HK K2 K3 hc0 hc1 hz1 ht0 ht1 ht2 ht3 hf0 hf1 hf2 hf3
        have HX := HXn
        have HK := HKn
        have K2 := K2n
        have K3 := K3n
        clear HXn HKn K2n K3n
        generalize (((w6.setCell ⟨b3, 0, none⟩ (.int .i64 3)).setCell ⟨b3, 3, none⟩ (.string (s.extract i m))).drew) = w7 at HX HK K2 K3 ⊢
        have hc0 := HX.out.s
        have hc1 := HX.out.i
        have hz1 := HX.out.fz
        have ht0 := K3.out.c0
        have ht1 := K3.out.c1
        have ht2 := K3.out.c2
        have ht3 := K3.out.c3
        have hf0 := K3.out.fz 0
        have hf1 := K3.out.fz 1
        have hf2 := K3.out.fz 2
        have hf3 := K3.out.fz 3
        have hr0 := K2.out.c0
        have hr1 := K2.out.c1
        have hr2 := K2.out.c2
        have hr3 := K2.out.c3
        have hs0 := K2.out.fz 0
        have hs1 := K2.out.fz 1
        have hs2 := K2.out.fz 2
        have hs3 := K2.out.fz 3
        have HWM := Aside0.mk (show IntKind.i64.wrap (m : Int) = (m : Int) from wrapE m 0 (by have := HM.out; have := HS.out; omega))
        obtain ⟨p, hp, hf⟩ := Option.bind_eq_some_iff.mp hf
        have A2 := Aside0.mk hp
        clear hp
        cases p
        · rw [if_neg (by decide)] at hf
          obtain ⟨b, hb, hf⟩ := Option.bind_eq_some_iff.mp hf
          have A3 := Aside0.mk hb
          clear hb
          cases b
          · rw [if_neg (by decide)] at hf
            obtain ⟨rfl, rfl, rfl, rfl⟩ : (3 : Int) = kd ∧ (⟨#[]⟩ : ByteArray) = tx ∧ s.extract i m = nm ∧ m = j := by
              have h := Option.some.inj hf
              simp only [Prod.mk.injEq] at h
              exact h
            clear hf
            go_wp2_with (first | (go_at_call 43; with_reducible refine (is_pct0 s g m m HS.out HWM.out _ _ ?lx A2.out).mono ?_; (case lx => exact (by repeat (first | (with_reducible first | exact HX.out | apply Lx.drewN | apply Lx.set)))); rintro e wi ⟨rfl, ⟨ni, rfl⟩⟩) | (go_at_call 45; with_reducible refine (begins_calls k s g m HS.out HM.out _ _ ?lx A3.out).mono ?_; (case lx => exact (by repeat (first | (with_reducible first | exact HX.out | apply Lx.drewN | apply Lx.drew | apply Lx.set | apply lx_far N2.out)))); rintro e wb ⟨rfl, hb⟩; have HXn := Aside0.mk (Lx.below (by repeat (first | (with_reducible first | exact HX.out | apply Lx.drewN | apply Lx.drew | apply Lx.set | apply lx_far N2.out))) hb); have HKn := Aside0.mk (Lk.call (by repeat (first | (with_reducible first | exact HK.out | apply Lk.drewN | apply Lk.drew | apply Lk.set | apply lk_setN HB3.out))) hb); have K2n := Aside0.mk (Tk.call (by repeat (first | (with_reducible first | exact K2.out | apply Tk.drewN | apply Tk.drew | apply tk_far N1.out.symm | apply tk_far N3.out))) hb); have K3n := Aside0.mk (Tk.call (by repeat (first | (with_reducible first | exact K3.out | apply Tk.drewN | apply Tk.drew | apply tk_far N2.out.symm))) hb); clear hb; clear HX HK K2 K3; have HX := HXn; have HK := HKn; have K2 := K2n; have K3 := K3n; clear HXn HKn K2n K3n; have hc0 := HX.out.s; have hc1 := HX.out.i; have hz1 := HX.out.fz; have ht0 := K3.out.c0; have ht1 := K3.out.c1; have ht2 := K3.out.c2; have ht3 := K3.out.c3; have hf0 := K3.out.fz 0; have hf1 := K3.out.fz 1; have hf2 := K3.out.fz 2; have hf3 := K3.out.fz 3; have hr0 := K2.out.c0; have hr1 := K2.out.c1; have hr2 := K2.out.c2; have hr3 := K2.out.c3; have hs0 := K2.out.fz 0; have hs1 := K2.out.fz 1; have hs2 := K2.out.fz 2; have hs3 := K2.out.fz 3))
            refine bodyPost_ret (results_cell_row rfl _ _ b2 33 #[.int .i64 3, .int .i64 (i : Int), .string (⟨#[]⟩ : ByteArray), .string (s.extract i m)] (0, 0) _ rfl (show _ from Tk.set3 (Tk.set2 (Tk.set1 (Tk.set0 (by repeat (first | (with_reducible first | exact K2.out | apply Tk.drewN | apply Tk.drew | apply tk_far N1.out.symm | apply tk_far N3.out))) _) _) _) _) huT rfl (by kernel_rfl)) rfl ?_
            exact ⟨rfl, Lx.far (Lx.far (Lx.far (Lx.far (by repeat (first | (with_reducible first | exact HX.out | apply Lx.drewN | apply Lx.drew | apply Lx.set | apply lx_far N2.out))) N1.out _ _) N1.out _ _) N1.out _ _) N1.out _ _, Lk.setN (Lk.setN (Lk.setN (Lk.setN (by repeat (first | (with_reducible first | exact HK.out | apply Lk.drewN | apply Lk.drew | apply Lk.set | apply lk_setN HB3.out))) HS2.out _ _) HS2.out _ _) HS2.out _ _) HS2.out _ _⟩
          · rw [if_pos rfl] at hf
            obtain ⟨⟨l, e⟩, ht, hf⟩ := Option.bind_eq_some_iff.mp hf
            have A4 := Aside0.mk ht
            clear ht
            try dsimp only at hf
            by_cases h3 : l.length ≤ 64 ∧ e ≤ s.size
            · rw [if_pos h3] at hf
              obtain ⟨x, hx⟩ : ∃ x : ByteArray, (⟨l.toArray⟩ : ByteArray) = x := ⟨_, rfl⟩
              have HTX := Aside0.mk hx
              have hxs : x.size ≤ 64 := by
                rw [← hx]
                show l.toArray.size ≤ 64
                rw [List.size_toArray]
                exact h3.1
              have p8 : decide ((x.size : Int) > 64) = false := decide_eq_false (by omega)
              have p9 : decide (64 < (x.size : Int)) = false := decide_eq_false (by omega)
              rw [hx] at hf
              clear h3 hxs hx
              obtain ⟨rfl, rfl, rfl, rfl⟩ : (5 : Int) = kd ∧ x = tx ∧ s.extract i m = nm ∧ e = j := by
                have h := Option.some.inj hf
                simp only [Prod.mk.injEq] at h
                exact h
              clear hf
              go_wp2_with (first | (go_at_call 43; with_reducible refine (is_pct0 s g m m HS.out HWM.out _ _ ?lx A2.out).mono ?_; (case lx => exact (by repeat (first | (with_reducible first | exact HX.out | apply Lx.drewN | apply Lx.set)))); rintro e wi ⟨rfl, ⟨ni, rfl⟩⟩) | (go_at_call 45; with_reducible refine (begins_calls k s g m HS.out HM.out _ _ ?lx A3.out).mono ?_; (case lx => exact (by repeat (first | (with_reducible first | exact HX.out | apply Lx.drewN | apply Lx.drew | apply Lx.set | apply lx_far N2.out)))); rintro e wb ⟨rfl, hb⟩; have HXn := Aside0.mk (Lx.below (by repeat (first | (with_reducible first | exact HX.out | apply Lx.drewN | apply Lx.drew | apply Lx.set | apply lx_far N2.out))) hb); have HKn := Aside0.mk (Lk.call (by repeat (first | (with_reducible first | exact HK.out | apply Lk.drewN | apply Lk.drew | apply Lk.set | apply lk_setN HB3.out))) hb); have K2n := Aside0.mk (Tk.call (by repeat (first | (with_reducible first | exact K2.out | apply Tk.drewN | apply Tk.drew | apply tk_far N1.out.symm | apply tk_far N3.out))) hb); have K3n := Aside0.mk (Tk.call (by repeat (first | (with_reducible first | exact K3.out | apply Tk.drewN | apply Tk.drew | apply tk_far N2.out.symm))) hb); clear hb; clear HX HK K2 K3; have HX := HXn; have HK := HKn; have K2 := K2n; have K3 := K3n; clear HXn HKn K2n K3n; have hc0 := HX.out.s; have hc1 := HX.out.i; have hz1 := HX.out.fz; have ht0 := K3.out.c0; have ht1 := K3.out.c1; have ht2 := K3.out.c2; have ht3 := K3.out.c3; have hf0 := K3.out.fz 0; have hf1 := K3.out.fz 1; have hf2 := K3.out.fz 2; have hf3 := K3.out.fz 3; have hr0 := K2.out.c0; have hr1 := K2.out.c1; have hr2 := K2.out.c2; have hr3 := K2.out.c3; have hs0 := K2.out.fz 0; have hs1 := K2.out.fz 1; have hs2 := K2.out.fz 2; have hs3 := K2.out.fz 3) | (go_at_call 46; with_reducible refine (ident_calls k s g m _ _ HS.out HM.out _ ?lx A4.out).mono ?_; (case lx => exact (by repeat (first | (with_reducible first | exact HX.out | apply Lx.drewN | apply Lx.drew | apply Lx.set | apply lx_far N2.out)))); rintro e wd ⟨rfl, hx, hk⟩; rw [HTX.out]; have HXn := Aside0.mk hx; have HKn := Aside0.mk (Lk.trans (by repeat (first | (with_reducible first | exact HK.out | apply Lk.drewN | apply Lk.drew | apply Lk.set | apply lk_setN HB3.out))) hk); have K2n := Aside0.mk (Tk.lk (by repeat (first | (with_reducible first | exact K2.out | apply Tk.drewN | apply Tk.drew | apply tk_far N1.out.symm | apply tk_far N3.out))) hk N1.out.symm); have K3n := Aside0.mk (Tk.lk (by repeat (first | (with_reducible first | exact K3.out | apply Tk.drewN | apply Tk.drew | apply tk_far N2.out.symm))) hk N2.out.symm); clear hx hk; clear HX HK K2 K3; have HX := HXn; have HK := HKn; have K2 := K2n; have K3 := K3n; clear HXn HKn K2n K3n; have hc0 := HX.out.s; have hc1 := HX.out.i; have hz1 := HX.out.fz; have ht0 := K3.out.c0; have ht1 := K3.out.c1; have ht2 := K3.out.c2; have ht3 := K3.out.c3; have hf0 := K3.out.fz 0; have hf1 := K3.out.fz 1; have hf2 := K3.out.fz 2; have hf3 := K3.out.fz 3; have hr0 := K2.out.c0; have hr1 := K2.out.c1; have hr2 := K2.out.c2; have hr3 := K2.out.c3; have hs0 := K2.out.fz 0; have hs1 := K2.out.fz 1; have hs2 := K2.out.fz 2; have hs3 := K2.out.fz 3))
              refine bodyPost_ret (results_cell_row rfl _ _ b2 33 #[.int .i64 5, .int .i64 (i : Int), .string x, .string (s.extract i m)] (0, 0) _ rfl (show _ from Tk.set3 (Tk.set2 (Tk.set1 (Tk.set0 (by repeat (first | (with_reducible first | exact K2.out | apply Tk.drewN | apply Tk.drew | apply tk_far N1.out.symm | apply tk_far N3.out))) _) _) _) _) huT rfl (by kernel_rfl)) rfl ?_
              exact ⟨rfl, Lx.far (Lx.far (Lx.far (Lx.far (by repeat (first | (with_reducible first | exact HX.out | apply Lx.drewN | apply Lx.drew | apply Lx.set | apply lx_far N2.out))) N1.out _ _) N1.out _ _) N1.out _ _) N1.out _ _, Lk.setN (Lk.setN (Lk.setN (Lk.setN (by repeat (first | (with_reducible first | exact HK.out | apply Lk.drewN | apply Lk.drew | apply Lk.set | apply lk_setN HB3.out))) HS2.out _ _) HS2.out _ _) HS2.out _ _) HS2.out _ _⟩
            · rw [if_neg h3] at hf
              cases hf
        · rw [if_pos rfl] at hf
          have hwm1 : wrap64 ((m : Int) + 1) = ((m + 1 : Nat) : Int) := by have := HM.out; have := HS.out; unfold wrap64; omega
          obtain ⟨rfl, rfl, rfl, rfl⟩ : (4 : Int) = kd ∧ (⟨#[]⟩ : ByteArray) = tx ∧ s.extract i m = nm ∧ m + 1 = j := by
            have h := Option.some.inj hf
            simp only [Prod.mk.injEq] at h
            exact h
          clear hf
          go_wp2_with (first | (go_at_call 43; with_reducible refine (is_pct0 s g m m HS.out HWM.out _ _ ?lx A2.out).mono ?_; (case lx => exact (by repeat (first | (with_reducible first | exact HX.out | apply Lx.drewN | apply Lx.set)))); rintro e wi ⟨rfl, ⟨ni, rfl⟩⟩))
          refine bodyPost_ret (results_cell_row rfl _ _ b2 33 #[.int .i64 4, .int .i64 (i : Int), .string (⟨#[]⟩ : ByteArray), .string (s.extract i m)] (0, 0) _ rfl (show _ from Tk.set3 (Tk.set2 (Tk.set1 (Tk.set0 (by repeat (first | (with_reducible first | exact K2.out | apply Tk.drewN | apply Tk.drew | apply tk_far N1.out.symm | apply tk_far N3.out))) _) _) _) _) huT rfl (by kernel_rfl)) rfl ?_
          exact ⟨rfl, Lx.far (Lx.far (Lx.far (Lx.far (Lx.setv (by repeat (first | (with_reducible first | exact HX.out | apply Lx.drewN | apply Lx.drew | apply Lx.set | apply lx_far N2.out))) (by omega)) N1.out _ _) N1.out _ _) N1.out _ _) N1.out _ _, Lk.setN (Lk.setN (Lk.setN (Lk.setN (by repeat (first | (with_reducible first | exact HK.out | apply Lk.drewN | apply Lk.drew | apply Lk.set | apply lk_setN HB3.out))) HS2.out _ _) HS2.out _ _) HS2.out _ _) HS2.out _ _⟩
      · rw [if_neg h2] at hf
        cases hf
    · rw [if_neg h1] at hf
      have p1 : decide (n > 0) = false := decide_eq_false h1
      have p2 : decide (0 < n) = false := decide_eq_false h1
      clear hlt hs h1
      obtain ⟨b, hb, hf⟩ := Option.bind_eq_some_iff.mp hf
      have A2 := Aside0.mk hb
      clear hb
      cases b
      · rw [if_neg (by decide)] at hf
        by_cases h3 : bt s (i : Nat) = 34 ∨ bt s (i : Nat) = 39
        · rw [if_pos h3] at hf
          obtain ⟨⟨l, e⟩, ht, hf⟩ := Option.bind_eq_some_iff.mp hf
          have A4 := Aside0.mk ht
          clear ht
          try dsimp only at hf
          by_cases h4 : l.length ≤ 8192 ∧ e ≤ s.size
          · rw [if_pos h4] at hf
            obtain ⟨x, hx⟩ : ∃ x : ByteArray, (⟨l.toArray⟩ : ByteArray) = x := ⟨_, rfl⟩
            have HTX := Aside0.mk hx
            have hxs : x.size ≤ 8192 := by
              rw [← hx]
              show l.toArray.size ≤ 8192
              rw [List.size_toArray]
              exact h4.1
            have p8 : decide ((x.size : Int) > 8192) = false := decide_eq_false (by omega)
            have p9 : decide (8192 < (x.size : Int)) = false := decide_eq_false (by omega)
            rw [hx] at hf
            clear hxs hx h4
            by_cases h34 : bt s (i : Nat) = 34
            · have p3 : (bt s (i : Nat) == 34) = true := beq_iff_eq.mpr h34
              clear h3 h34
              obtain ⟨rfl, rfl, rfl, rfl⟩ : (6 : Int) = kd ∧ x = tx ∧ (⟨#[]⟩ : ByteArray) = nm ∧ e = j := by
                have h := Option.some.inj hf
                simp only [Prod.mk.injEq] at h
                exact h
              clear hf
              go_enter Try.func28, Try.ntmps28
              go_wp2_with (first | ((with_reducible refine gate_dst (N := 2) rfl ?_); (try (refine gate_guard (by rfl) ?_; dsimp only)); refine box_event ?hg (N := 2) ?hd (cs := #[.int .i64 0, .int .i64 0, .string (⟨#[]⟩ : ByteArray), .string (⟨#[]⟩ : ByteArray)]) (t := 33) ?hr ?_; (case hd => rfl); (case hg => rfl); (case hr => first | (go_simp; done) | (go_simp; rfl)); intro b2 hg w2 hbox hb; have HG2 := Aside0.mk hg; have K2 := Aside0.mk (show Tk w2 b2 0 0 ⟨#[]⟩ ⟨#[]⟩ from hbox); have HX2 := Aside0.mk (Lx.below HX.out hb); have HK2 := Aside0.mk (Lk.of_below (g := g) hb); clear hg hbox hb HX; have HX := HX2; have HK := HK2; clear HX2 HK2; have hc0 := HX.out.s; have hc1 := HX.out.i; have hz1 := HX.out.fz) | ((with_reducible refine gate_dst (N := 3) rfl ?_); (try (refine gate_guard (by rfl) ?_; dsimp only)); refine box_event ?hg (N := 3) ?hd (cs := #[.int .i64 0, .int .i64 0, .string (⟨#[]⟩ : ByteArray), .string (⟨#[]⟩ : ByteArray)]) (t := 33) ?hr ?_; (case hd => rfl); (case hg => rfl); (case hr => first | (go_simp; done) | (go_simp; rfl)); intro b3 hg w3 hbox hb; have HG3 := Aside0.mk hg; have K2L := Aside0.mk (Tk.lt K2.out); have K3 := Aside0.mk (show Tk w3 b3 0 0 ⟨#[]⟩ ⟨#[]⟩ from hbox); have HX2 := Aside0.mk (Lx.below HX.out hb); have HK2 := Aside0.mk (Lk.call HK.out hb); have K22 := Aside0.mk (Tk.call K2.out hb); clear hg hbox hb HX HK K2; have HX := HX2; have HK := HK2; have K2 := K22; clear HX2 HK2 K22; have ht0 := K3.out.c0; have ht1 := K3.out.c1; have ht2 := K3.out.c2; have ht3 := K3.out.c3; have hf0 := K3.out.fz 0; have hf1 := K3.out.fz 1; have hf2 := K3.out.fz 2; have hf3 := K3.out.fz 3))
              have HS2 := Aside0.mk (show w.heap.size ≤ b2 by rw [HG2.out]; exact Nat.le_refl _)
              have HS3 := Aside0.mk (show b2 < b3 by rw [HG3.out]; exact K2L.out)
              have N1 := Aside0.mk (show g ≠ b2 by have := HS2.out; have := HG.out; omega)
              have N2 := Aside0.mk (show g ≠ b3 by have := HS2.out; have := HS3.out; have := HG.out; omega)
              have N3 := Aside0.mk (show b2 ≠ b3 by have := HS3.out; omega)
              have HB3 := Aside0.mk (show w.heap.size ≤ b3 by have := HS2.out; have := HS3.out; omega)
              have HX4 : Aside0 (Lx ((((w3.setCell ⟨b3, 0, none⟩ (.int .i64 0)).setCell ⟨b3, 1, none⟩ (.int .i64 (i : Int))).setCell ⟨b3, 2, none⟩ (.string (⟨#[]⟩ : ByteArray))).setCell ⟨b3, 3, none⟩ (.string (⟨#[]⟩ : ByteArray))) g s i) := ⟨Lx.far (Lx.far (Lx.far (Lx.far HX.out N2.out _ _) N2.out _ _) N2.out _ _) N2.out _ _⟩
              have HK4 : Aside0 (Lk g w ((((w3.setCell ⟨b3, 0, none⟩ (.int .i64 0)).setCell ⟨b3, 1, none⟩ (.int .i64 (i : Int))).setCell ⟨b3, 2, none⟩ (.string (⟨#[]⟩ : ByteArray))).setCell ⟨b3, 3, none⟩ (.string (⟨#[]⟩ : ByteArray)))) := ⟨Lk.setN (Lk.setN (Lk.setN (Lk.setN HK.out HB3.out _ _) HB3.out _ _) HB3.out _ _) HB3.out _ _⟩
              have K24 : Aside0 (Tk ((((w3.setCell ⟨b3, 0, none⟩ (.int .i64 0)).setCell ⟨b3, 1, none⟩ (.int .i64 (i : Int))).setCell ⟨b3, 2, none⟩ (.string (⟨#[]⟩ : ByteArray))).setCell ⟨b3, 3, none⟩ (.string (⟨#[]⟩ : ByteArray))) b2 0 0 ⟨#[]⟩ ⟨#[]⟩) := ⟨Tk.far (Tk.far (Tk.far (Tk.far K2.out N3.out _ _) N3.out _ _) N3.out _ _) N3.out _ _⟩
              have K34 : Aside0 (Tk ((((w3.setCell ⟨b3, 0, none⟩ (.int .i64 0)).setCell ⟨b3, 1, none⟩ (.int .i64 (i : Int))).setCell ⟨b3, 2, none⟩ (.string (⟨#[]⟩ : ByteArray))).setCell ⟨b3, 3, none⟩ (.string (⟨#[]⟩ : ByteArray))) b3 0 (i : Int) ⟨#[]⟩ ⟨#[]⟩) := ⟨Tk.set3 (Tk.set2 (Tk.set1 (Tk.set0 K3.out _) _) _) _⟩
              clear HX HK K2 K3 hc0 hc1 hz1 ht0 ht1 ht2 ht3 hf0 hf1 hf2 hf3
              generalize ((((w3.setCell ⟨b3, 0, none⟩ (.int .i64 0)).setCell ⟨b3, 1, none⟩ (.int .i64 (i : Int))).setCell ⟨b3, 2, none⟩ (.string (⟨#[]⟩ : ByteArray))).setCell ⟨b3, 3, none⟩ (.string (⟨#[]⟩ : ByteArray))) = w4 at HX4 HK4 K24 K34 ⊢
              have hc0 := HX4.out.s
              have hc1 := HX4.out.i
              go_wp2
              refine wp_region_quiet_lit (by kernel_rfl) (by kernel_rfl) ?_
              repeat (go_big_quiet_step (fail))
              refine wpQuiet_nil ?_
              intro _ hw'
              obtain ⟨nq, hw''⟩ := hw'
              subst hw''
              go_wp2
              have HX5 : Aside0 (Lx (w4.drewN nq).drew g s i) := ⟨HX4.out⟩
              have HK5 : Aside0 (Lk g w (w4.drewN nq).drew) := ⟨(HK4.out.drewN nq).drew⟩
              have K25 : Aside0 (Tk (w4.drewN nq).drew b2 0 0 ⟨#[]⟩ ⟨#[]⟩) := ⟨K24.out⟩
              have K35 : Aside0 (Tk (w4.drewN nq).drew b3 0 (i : Int) ⟨#[]⟩ ⟨#[]⟩) := ⟨K34.out⟩
              clear HX4 HK4 K24 K34 hc0 hc1
              refine start_ (n := 11) (S := (fun w' => w'.cell? ⟨g, 0, none⟩ = some (.string s) ∧ w'.cell? ⟨g, 1, none⟩ = some (.int .i64 (i : Int)))) (ds := []) #[false, false, false, false, false, false, false, false, false, false, false] (by kernel_rfl) rfl rfl ⟨HX5.out.s, HX5.out.i⟩ (fun hHeld => ?_)
              refine with_tabW lexer_word.tab4 lexer_word.bits4 (fun HT_ HW_ => ?_)
              generalize (w4.drewN nq).drew = w5 at HX5 HK5 K25 K35 hHeld ⊢
              refine pure_ (i := 0) (N := (some 21)) (v := ?_) (a' := ?_) #[true, false, false, false, false, false, false, false, false, false, false] rfl rfl (any_of HT_.out (by kernel_rfl)) (fun _ _ _ h => h) (Or.inl ⟨by rfl, ?_⟩) ?_ ?_
              rotate_left
              ·intro w'
               go_simp
               with_reducible rfl
              rotate_left
              ·simp only [Act.put, List.setIfInBounds_toArray, List.set_cons_zero, List.set_cons_succ, i64_w, i32_w]
               rfl
              refine pure_ (i := 1) (N := (some 22)) (v := ?_) (a' := ?_) #[true, true, false, false, false, false, false, false, false, false, false] rfl rfl (any_of HT_.out (by kernel_rfl)) (fun _ _ _ h => h) (Or.inl ⟨by rfl, ?_⟩) ?_ ?_
              rotate_left
              ·intro w'
               go_simp
               with_reducible rfl
              rotate_left
              ·simp only [Act.put, List.setIfInBounds_toArray, List.set_cons_zero, List.set_cons_succ, i64_w, i32_w]
               rfl
              refine pure_ (i := 2) (N := (some 23)) (v := ?_) (a' := ?_) #[true, true, true, false, false, false, false, false, false, false, false] rfl rfl (any_of HT_.out (by kernel_rfl)) (fun _ _ _ h => h) (Or.inl ⟨by rfl, ?_⟩) ?_ ?_
              rotate_left
              ·intro w'
               go_simp
               with_reducible rfl
              rotate_left
              ·simp only [Act.put, List.setIfInBounds_toArray, List.set_cons_zero, List.set_cons_succ, i64_w, i32_w]
               rfl
              refine take_ (i := 3) (N := (some 24)) (v := ?_) (a' := ?_) #[true, true, true, true, false, false, false, false, false, false, false] rfl rfl (take_ofW HT_.out HW_.out (by kernel_rfl)) (fun _ _ _ h => h) (Or.inl ⟨by rfl, ?_⟩) hHeld ?_ ?_
              rotate_left
              ·rintro w' ⟨s0, s1⟩
               go_simp
               with_reducible rfl
              rotate_left
              ·simp only [Act.put, List.setIfInBounds_toArray, List.set_cons_zero, List.set_cons_succ, i64_w, i32_w]
               rfl
              refine pure_ (i := 4) (N := (some 25)) (v := ?_) (a' := ?_) #[true, true, true, true, true, false, false, false, false, false, false] rfl rfl (any_of HT_.out (by kernel_rfl)) (fun _ _ _ h => h) (Or.inl ⟨by rfl, ?_⟩) ?_ ?_
              rotate_left
              ·intro w'
               go_simp
               with_reducible rfl
              rotate_left
              ·simp only [Act.put, List.setIfInBounds_toArray, List.set_cons_zero, List.set_cons_succ, i64_w, i32_w]
               rfl
              refine pure_ (i := 5) (N := (some 26)) (v := ?_) (a' := ?_) #[true, true, true, true, true, true, false, false, false, false, false] rfl rfl (any_of HT_.out (by kernel_rfl)) (fun _ _ _ h => h) (Or.inl ⟨by rfl, ?_⟩) ?_ ?_
              rotate_left
              ·intro w'
               go_simp
               with_reducible rfl
              rotate_left
              ·simp only [Act.put, List.setIfInBounds_toArray, List.set_cons_zero, List.set_cons_succ, i64_w, i32_w]
               rfl
              refine pure_ (i := 6) (N := (some 27)) (v := ?_) (a' := ?_) #[true, true, true, true, true, true, true, false, false, false, false] rfl rfl (any_of HT_.out (by kernel_rfl)) (fun _ _ _ h => h) (Or.inl ⟨by rfl, ?_⟩) ?_ ?_
              rotate_left
              ·intro w'
               go_simp
               with_reducible rfl
              rotate_left
              ·simp only [Act.put, List.setIfInBounds_toArray, List.set_cons_zero, List.set_cons_succ, i64_w, i32_w]
               rfl
              refine take_ (i := 7) (N := (some 28)) (v := ?_) (a' := ?_) #[true, true, true, true, true, true, true, true, false, false, false] rfl rfl (take_ofW HT_.out HW_.out (by kernel_rfl)) (fun _ _ _ h => h) (Or.inl ⟨by rfl, ?_⟩) hHeld ?_ ?_
              rotate_left
              ·rintro w' ⟨s0, s1⟩
               go_simp
               with_reducible rfl
              rotate_left
              ·simp only [Act.put, List.setIfInBounds_toArray, List.set_cons_zero, List.set_cons_succ, i64_w, i32_w]
               rfl
              refine pure_ (i := 8) (N := (some 29)) (v := ?_) (a' := ?_) #[true, true, true, true, true, true, true, true, true, false, false] rfl rfl (any_of HT_.out (by kernel_rfl)) (fun _ _ _ h => h) (Or.inl ⟨by rfl, ?_⟩) ?_ ?_
              rotate_left
              ·intro w'
               go_simp
               with_reducible rfl
              rotate_left
              ·simp only [Act.put, List.setIfInBounds_toArray, List.set_cons_zero, List.set_cons_succ, i64_w, i32_w]
               rfl
              refine one_ (i := 9) (N := (some 30)) #[true, true, true, true, true, true, true, true, true, true, false] rfl rfl (one_of HT_.out (by kernel_rfl)) (by decide) (fun K hK => ?_)
              refine goes_ Try.func42 (by kernel_rfl) rfl #[.string (s.extract i s.size)] (by rfl) rfl rfl goa_ ?_
              refine (number_Scan.calls _ n _ A1.out).mono ?_
              rintro e w6 ⟨rfl, hb⟩
              refine ⟨_, rfl, ?_⟩
              have HX := Aside0.mk (HX5.out.below hb)
              have HK := Aside0.mk (HK5.out.call hb)
              have K2 := Aside0.mk (K25.out.call hb)
              have K3 := Aside0.mk (K35.out.call hb)
              clear hb HX5 HK5 K25 K35
              refine hK.out _ _ ⟨HX.out.s, HX.out.i⟩ (fun hHeld => ?_)
              clear hK K
              refine norm_ (a' := ?_) ?_ ?_
              rotate_left
              ·show Act.put _ (some 30) _ = _
               simp only [Act.put, List.setIfInBounds_toArray, List.set_cons_zero, List.set_cons_succ, i64_w, i32_w]
               rfl
              refine pure_ (i := 10) (N := (some 6)) (v := ?_) (a' := ?_) #[true, true, true, true, true, true, true, true, true, true, true] rfl rfl (any_of HT_.out (by kernel_rfl)) (fun _ _ _ h => h) (Or.inl ⟨by rfl, ?_⟩) ?_ ?_
              rotate_left
              ·intro w'
               go_simp
               with_reducible rfl
              rotate_left
              ·simp only [Act.put, List.setIfInBounds_toArray, List.set_cons_zero, List.set_cons_succ, i64_w, i32_w]
               rfl
              refine done_ (done_of HT_.out (by kernel_rfl)) ?_
              clear hHeld HT_ HW_
              have hc0 := HX.out.s
              have hc1 := HX.out.i
              have hz1 := HX.out.fz
              have ht0 := K3.out.c0
              have ht1 := K3.out.c1
              have ht2 := K3.out.c2
              have ht3 := K3.out.c3
              have hf0 := K3.out.fz 0
              have hf1 := K3.out.fz 1
              have hf2 := K3.out.fz 2
              have hf3 := K3.out.fz 3
              have hne := N2.out
              have hne2 := N2.out.symm
              have hne3 := N1.out
              have hne4 := N1.out.symm
              have hne5 := N3.out
              have hne6 := N3.out.symm
              go_wp2_with (first | (go_at_call 45; with_reducible refine (begins_calls k s g i HS.out HII.out _ _ ?lx A2.out).mono ?_; (case lx => exact (by repeat (first | (with_reducible first | exact HX.out | apply Lx.drewN | apply Lx.drew | apply Lx.set | apply lx_far N2.out)))); rintro e wb ⟨rfl, hb⟩; have HXn := Aside0.mk (Lx.below (by repeat (first | (with_reducible first | exact HX.out | apply Lx.drewN | apply Lx.drew | apply Lx.set | apply lx_far N2.out))) hb); have HKn := Aside0.mk (Lk.call (by repeat (first | (with_reducible first | exact HK.out | apply Lk.drewN | apply Lk.drew | apply Lk.set | apply lk_setN HB3.out))) hb); have K2n := Aside0.mk (Tk.call (by repeat (first | (with_reducible first | exact K2.out | apply Tk.drewN | apply Tk.drew | apply tk_far N1.out.symm | apply tk_far N3.out))) hb); have K3n := Aside0.mk (Tk.call (by repeat (first | (with_reducible first | exact K3.out | apply Tk.drewN | apply Tk.drew | apply tk_far N2.out.symm))) hb); clear hb; clear HX HK K2 K3; have HX := HXn; have HK := HKn; have K2 := K2n; have K3 := K3n; clear HXn HKn K2n K3n; have hc0 := HX.out.s; have hc1 := HX.out.i; have hz1 := HX.out.fz; have ht0 := K3.out.c0; have ht1 := K3.out.c1; have ht2 := K3.out.c2; have ht3 := K3.out.c3; have hf0 := K3.out.fz 0; have hf1 := K3.out.fz 1; have hf2 := K3.out.fz 2; have hf3 := K3.out.fz 3; have hr0 := K2.out.c0; have hr1 := K2.out.c1; have hr2 := K2.out.c2; have hr3 := K2.out.c3; have hs0 := K2.out.fz 0; have hs1 := K2.out.fz 1; have hs2 := K2.out.fz 2; have hs3 := K2.out.fz 3) | (go_at_call 48; with_reducible refine (quoted_calls k s g i _ _ HS.out HLT.out _ ?lx A4.out).mono ?_; (case lx => exact (by repeat (first | (with_reducible first | exact HX.out | apply Lx.drewN | apply Lx.drew | apply Lx.set | apply lx_far N2.out)))); rintro e wd ⟨rfl, hx, hk⟩; rw [HTX.out]; have HXn := Aside0.mk hx; have HKn := Aside0.mk (Lk.trans (by repeat (first | (with_reducible first | exact HK.out | apply Lk.drewN | apply Lk.drew | apply Lk.set | apply lk_setN HB3.out))) hk); have K2n := Aside0.mk (Tk.lk (by repeat (first | (with_reducible first | exact K2.out | apply Tk.drewN | apply Tk.drew | apply tk_far N1.out.symm | apply tk_far N3.out))) hk N1.out.symm); have K3n := Aside0.mk (Tk.lk (by repeat (first | (with_reducible first | exact K3.out | apply Tk.drewN | apply Tk.drew | apply tk_far N2.out.symm))) hk N2.out.symm); clear hx hk; clear HX HK K2 K3; have HX := HXn; have HK := HKn; have K2 := K2n; have K3 := K3n; clear HXn HKn K2n K3n; have hc0 := HX.out.s; have hc1 := HX.out.i; have hz1 := HX.out.fz; have ht0 := K3.out.c0; have ht1 := K3.out.c1; have ht2 := K3.out.c2; have ht3 := K3.out.c3; have hf0 := K3.out.fz 0; have hf1 := K3.out.fz 1; have hf2 := K3.out.fz 2; have hf3 := K3.out.fz 3; have hr0 := K2.out.c0; have hr1 := K2.out.c1; have hr2 := K2.out.c2; have hr3 := K2.out.c3; have hs0 := K2.out.fz 0; have hs1 := K2.out.fz 1; have hs2 := K2.out.fz 2; have hs3 := K2.out.fz 3))
              refine bodyPost_ret (results_cell_row rfl _ _ b2 33 #[.int .i64 6, .int .i64 (i : Int), .string x, .string (⟨#[]⟩ : ByteArray)] (0, 0) _ rfl (show _ from Tk.set3 (Tk.set2 (Tk.set1 (Tk.set0 (by repeat (first | (with_reducible first | exact K2.out | apply Tk.drewN | apply Tk.drew | apply tk_far N1.out.symm | apply tk_far N3.out))) _) _) _) _) huT rfl (by kernel_rfl)) rfl ?_
              exact ⟨rfl, Lx.far (Lx.far (Lx.far (Lx.far (by repeat (first | (with_reducible first | exact HX.out | apply Lx.drewN | apply Lx.drew | apply Lx.set | apply lx_far N2.out))) N1.out _ _) N1.out _ _) N1.out _ _) N1.out _ _, Lk.setN (Lk.setN (Lk.setN (Lk.setN (by repeat (first | (with_reducible first | exact HK.out | apply Lk.drewN | apply Lk.drew | apply Lk.set | apply lk_setN HB3.out))) HS2.out _ _) HS2.out _ _) HS2.out _ _) HS2.out _ _⟩
            · have p3 : (bt s (i : Nat) == 34) = false := beq_eq_false_iff_ne.mpr h34
              have p4 : (bt s (i : Nat) == 39) = true := beq_iff_eq.mpr (h3.resolve_left h34)
              clear h3 h34
              obtain ⟨rfl, rfl, rfl, rfl⟩ : (6 : Int) = kd ∧ x = tx ∧ (⟨#[]⟩ : ByteArray) = nm ∧ e = j := by
                have h := Option.some.inj hf
                simp only [Prod.mk.injEq] at h
                exact h
              clear hf
              go_enter Try.func28, Try.ntmps28
              go_wp2_with (first | ((with_reducible refine gate_dst (N := 2) rfl ?_); (try (refine gate_guard (by rfl) ?_; dsimp only)); refine box_event ?hg (N := 2) ?hd (cs := #[.int .i64 0, .int .i64 0, .string (⟨#[]⟩ : ByteArray), .string (⟨#[]⟩ : ByteArray)]) (t := 33) ?hr ?_; (case hd => rfl); (case hg => rfl); (case hr => first | (go_simp; done) | (go_simp; rfl)); intro b2 hg w2 hbox hb; have HG2 := Aside0.mk hg; have K2 := Aside0.mk (show Tk w2 b2 0 0 ⟨#[]⟩ ⟨#[]⟩ from hbox); have HX2 := Aside0.mk (Lx.below HX.out hb); have HK2 := Aside0.mk (Lk.of_below (g := g) hb); clear hg hbox hb HX; have HX := HX2; have HK := HK2; clear HX2 HK2; have hc0 := HX.out.s; have hc1 := HX.out.i; have hz1 := HX.out.fz) | ((with_reducible refine gate_dst (N := 3) rfl ?_); (try (refine gate_guard (by rfl) ?_; dsimp only)); refine box_event ?hg (N := 3) ?hd (cs := #[.int .i64 0, .int .i64 0, .string (⟨#[]⟩ : ByteArray), .string (⟨#[]⟩ : ByteArray)]) (t := 33) ?hr ?_; (case hd => rfl); (case hg => rfl); (case hr => first | (go_simp; done) | (go_simp; rfl)); intro b3 hg w3 hbox hb; have HG3 := Aside0.mk hg; have K2L := Aside0.mk (Tk.lt K2.out); have K3 := Aside0.mk (show Tk w3 b3 0 0 ⟨#[]⟩ ⟨#[]⟩ from hbox); have HX2 := Aside0.mk (Lx.below HX.out hb); have HK2 := Aside0.mk (Lk.call HK.out hb); have K22 := Aside0.mk (Tk.call K2.out hb); clear hg hbox hb HX HK K2; have HX := HX2; have HK := HK2; have K2 := K22; clear HX2 HK2 K22; have ht0 := K3.out.c0; have ht1 := K3.out.c1; have ht2 := K3.out.c2; have ht3 := K3.out.c3; have hf0 := K3.out.fz 0; have hf1 := K3.out.fz 1; have hf2 := K3.out.fz 2; have hf3 := K3.out.fz 3))
              have HS2 := Aside0.mk (show w.heap.size ≤ b2 by rw [HG2.out]; exact Nat.le_refl _)
              have HS3 := Aside0.mk (show b2 < b3 by rw [HG3.out]; exact K2L.out)
              have N1 := Aside0.mk (show g ≠ b2 by have := HS2.out; have := HG.out; omega)
              have N2 := Aside0.mk (show g ≠ b3 by have := HS2.out; have := HS3.out; have := HG.out; omega)
              have N3 := Aside0.mk (show b2 ≠ b3 by have := HS3.out; omega)
              have HB3 := Aside0.mk (show w.heap.size ≤ b3 by have := HS2.out; have := HS3.out; omega)
              have HX4 : Aside0 (Lx ((((w3.setCell ⟨b3, 0, none⟩ (.int .i64 0)).setCell ⟨b3, 1, none⟩ (.int .i64 (i : Int))).setCell ⟨b3, 2, none⟩ (.string (⟨#[]⟩ : ByteArray))).setCell ⟨b3, 3, none⟩ (.string (⟨#[]⟩ : ByteArray))) g s i) := ⟨Lx.far (Lx.far (Lx.far (Lx.far HX.out N2.out _ _) N2.out _ _) N2.out _ _) N2.out _ _⟩
              have HK4 : Aside0 (Lk g w ((((w3.setCell ⟨b3, 0, none⟩ (.int .i64 0)).setCell ⟨b3, 1, none⟩ (.int .i64 (i : Int))).setCell ⟨b3, 2, none⟩ (.string (⟨#[]⟩ : ByteArray))).setCell ⟨b3, 3, none⟩ (.string (⟨#[]⟩ : ByteArray)))) := ⟨Lk.setN (Lk.setN (Lk.setN (Lk.setN HK.out HB3.out _ _) HB3.out _ _) HB3.out _ _) HB3.out _ _⟩
              have K24 : Aside0 (Tk ((((w3.setCell ⟨b3, 0, none⟩ (.int .i64 0)).setCell ⟨b3, 1, none⟩ (.int .i64 (i : Int))).setCell ⟨b3, 2, none⟩ (.string (⟨#[]⟩ : ByteArray))).setCell ⟨b3, 3, none⟩ (.string (⟨#[]⟩ : ByteArray))) b2 0 0 ⟨#[]⟩ ⟨#[]⟩) := ⟨Tk.far (Tk.far (Tk.far (Tk.far K2.out N3.out _ _) N3.out _ _) N3.out _ _) N3.out _ _⟩
              have K34 : Aside0 (Tk ((((w3.setCell ⟨b3, 0, none⟩ (.int .i64 0)).setCell ⟨b3, 1, none⟩ (.int .i64 (i : Int))).setCell ⟨b3, 2, none⟩ (.string (⟨#[]⟩ : ByteArray))).setCell ⟨b3, 3, none⟩ (.string (⟨#[]⟩ : ByteArray))) b3 0 (i : Int) ⟨#[]⟩ ⟨#[]⟩) := ⟨Tk.set3 (Tk.set2 (Tk.set1 (Tk.set0 K3.out _) _) _) _⟩
              clear HX HK K2 K3 hc0 hc1 hz1 ht0 ht1 ht2 ht3 hf0 hf1 hf2 hf3
              generalize ((((w3.setCell ⟨b3, 0, none⟩ (.int .i64 0)).setCell ⟨b3, 1, none⟩ (.int .i64 (i : Int))).setCell ⟨b3, 2, none⟩ (.string (⟨#[]⟩ : ByteArray))).setCell ⟨b3, 3, none⟩ (.string (⟨#[]⟩ : ByteArray))) = w4 at HX4 HK4 K24 K34 ⊢
              have hc0 := HX4.out.s
              have hc1 := HX4.out.i
              go_wp2
              refine wp_region_quiet_lit (by kernel_rfl) (by kernel_rfl) ?_
              repeat (go_big_quiet_step (fail))
              refine wpQuiet_nil ?_
              intro _ hw'
              obtain ⟨nq, hw''⟩ := hw'
              subst hw''
              go_wp2
              have HX5 : Aside0 (Lx (w4.drewN nq).drew g s i) := ⟨HX4.out⟩
              have HK5 : Aside0 (Lk g w (w4.drewN nq).drew) := ⟨(HK4.out.drewN nq).drew⟩
              have K25 : Aside0 (Tk (w4.drewN nq).drew b2 0 0 ⟨#[]⟩ ⟨#[]⟩) := ⟨K24.out⟩
              have K35 : Aside0 (Tk (w4.drewN nq).drew b3 0 (i : Int) ⟨#[]⟩ ⟨#[]⟩) := ⟨K34.out⟩
              clear HX4 HK4 K24 K34 hc0 hc1
              refine start_ (n := 11) (S := (fun w' => w'.cell? ⟨g, 0, none⟩ = some (.string s) ∧ w'.cell? ⟨g, 1, none⟩ = some (.int .i64 (i : Int)))) (ds := []) #[false, false, false, false, false, false, false, false, false, false, false] (by kernel_rfl) rfl rfl ⟨HX5.out.s, HX5.out.i⟩ (fun hHeld => ?_)
              refine with_tabW lexer_word.tab4 lexer_word.bits4 (fun HT_ HW_ => ?_)
              generalize (w4.drewN nq).drew = w5 at HX5 HK5 K25 K35 hHeld ⊢
              refine pure_ (i := 0) (N := (some 21)) (v := ?_) (a' := ?_) #[true, false, false, false, false, false, false, false, false, false, false] rfl rfl (any_of HT_.out (by kernel_rfl)) (fun _ _ _ h => h) (Or.inl ⟨by rfl, ?_⟩) ?_ ?_
              rotate_left
              ·intro w'
               go_simp
               with_reducible rfl
              rotate_left
              ·simp only [Act.put, List.setIfInBounds_toArray, List.set_cons_zero, List.set_cons_succ, i64_w, i32_w]
               rfl
              refine pure_ (i := 1) (N := (some 22)) (v := ?_) (a' := ?_) #[true, true, false, false, false, false, false, false, false, false, false] rfl rfl (any_of HT_.out (by kernel_rfl)) (fun _ _ _ h => h) (Or.inl ⟨by rfl, ?_⟩) ?_ ?_
              rotate_left
              ·intro w'
               go_simp
               with_reducible rfl
              rotate_left
              ·simp only [Act.put, List.setIfInBounds_toArray, List.set_cons_zero, List.set_cons_succ, i64_w, i32_w]
               rfl
              refine pure_ (i := 2) (N := (some 23)) (v := ?_) (a' := ?_) #[true, true, true, false, false, false, false, false, false, false, false] rfl rfl (any_of HT_.out (by kernel_rfl)) (fun _ _ _ h => h) (Or.inl ⟨by rfl, ?_⟩) ?_ ?_
              rotate_left
              ·intro w'
               go_simp
               with_reducible rfl
              rotate_left
              ·simp only [Act.put, List.setIfInBounds_toArray, List.set_cons_zero, List.set_cons_succ, i64_w, i32_w]
               rfl
              refine take_ (i := 3) (N := (some 24)) (v := ?_) (a' := ?_) #[true, true, true, true, false, false, false, false, false, false, false] rfl rfl (take_ofW HT_.out HW_.out (by kernel_rfl)) (fun _ _ _ h => h) (Or.inl ⟨by rfl, ?_⟩) hHeld ?_ ?_
              rotate_left
              ·rintro w' ⟨s0, s1⟩
               go_simp
               with_reducible rfl
              rotate_left
              ·simp only [Act.put, List.setIfInBounds_toArray, List.set_cons_zero, List.set_cons_succ, i64_w, i32_w]
               rfl
              refine pure_ (i := 4) (N := (some 25)) (v := ?_) (a' := ?_) #[true, true, true, true, true, false, false, false, false, false, false] rfl rfl (any_of HT_.out (by kernel_rfl)) (fun _ _ _ h => h) (Or.inl ⟨by rfl, ?_⟩) ?_ ?_
              rotate_left
              ·intro w'
               go_simp
               with_reducible rfl
              rotate_left
              ·simp only [Act.put, List.setIfInBounds_toArray, List.set_cons_zero, List.set_cons_succ, i64_w, i32_w]
               rfl
              refine pure_ (i := 5) (N := (some 26)) (v := ?_) (a' := ?_) #[true, true, true, true, true, true, false, false, false, false, false] rfl rfl (any_of HT_.out (by kernel_rfl)) (fun _ _ _ h => h) (Or.inl ⟨by rfl, ?_⟩) ?_ ?_
              rotate_left
              ·intro w'
               go_simp
               with_reducible rfl
              rotate_left
              ·simp only [Act.put, List.setIfInBounds_toArray, List.set_cons_zero, List.set_cons_succ, i64_w, i32_w]
               rfl
              refine pure_ (i := 6) (N := (some 27)) (v := ?_) (a' := ?_) #[true, true, true, true, true, true, true, false, false, false, false] rfl rfl (any_of HT_.out (by kernel_rfl)) (fun _ _ _ h => h) (Or.inl ⟨by rfl, ?_⟩) ?_ ?_
              rotate_left
              ·intro w'
               go_simp
               with_reducible rfl
              rotate_left
              ·simp only [Act.put, List.setIfInBounds_toArray, List.set_cons_zero, List.set_cons_succ, i64_w, i32_w]
               rfl
              refine take_ (i := 7) (N := (some 28)) (v := ?_) (a' := ?_) #[true, true, true, true, true, true, true, true, false, false, false] rfl rfl (take_ofW HT_.out HW_.out (by kernel_rfl)) (fun _ _ _ h => h) (Or.inl ⟨by rfl, ?_⟩) hHeld ?_ ?_
              rotate_left
              ·rintro w' ⟨s0, s1⟩
               go_simp
               with_reducible rfl
              rotate_left
              ·simp only [Act.put, List.setIfInBounds_toArray, List.set_cons_zero, List.set_cons_succ, i64_w, i32_w]
               rfl
              refine pure_ (i := 8) (N := (some 29)) (v := ?_) (a' := ?_) #[true, true, true, true, true, true, true, true, true, false, false] rfl rfl (any_of HT_.out (by kernel_rfl)) (fun _ _ _ h => h) (Or.inl ⟨by rfl, ?_⟩) ?_ ?_
              rotate_left
              ·intro w'
               go_simp
               with_reducible rfl
              rotate_left
              ·simp only [Act.put, List.setIfInBounds_toArray, List.set_cons_zero, List.set_cons_succ, i64_w, i32_w]
               rfl
              refine one_ (i := 9) (N := (some 30)) #[true, true, true, true, true, true, true, true, true, true, false] rfl rfl (one_of HT_.out (by kernel_rfl)) (by decide) (fun K hK => ?_)
              refine goes_ Try.func42 (by kernel_rfl) rfl #[.string (s.extract i s.size)] (by rfl) rfl rfl goa_ ?_
              refine (number_Scan.calls _ n _ A1.out).mono ?_
              rintro e w6 ⟨rfl, hb⟩
              refine ⟨_, rfl, ?_⟩
              have HX := Aside0.mk (HX5.out.below hb)
              have HK := Aside0.mk (HK5.out.call hb)
              have K2 := Aside0.mk (K25.out.call hb)
              have K3 := Aside0.mk (K35.out.call hb)
              clear hb HX5 HK5 K25 K35
              refine hK.out _ _ ⟨HX.out.s, HX.out.i⟩ (fun hHeld => ?_)
              clear hK K
              refine norm_ (a' := ?_) ?_ ?_
              rotate_left
              ·show Act.put _ (some 30) _ = _
               simp only [Act.put, List.setIfInBounds_toArray, List.set_cons_zero, List.set_cons_succ, i64_w, i32_w]
               rfl
              refine pure_ (i := 10) (N := (some 6)) (v := ?_) (a' := ?_) #[true, true, true, true, true, true, true, true, true, true, true] rfl rfl (any_of HT_.out (by kernel_rfl)) (fun _ _ _ h => h) (Or.inl ⟨by rfl, ?_⟩) ?_ ?_
              rotate_left
              ·intro w'
               go_simp
               with_reducible rfl
              rotate_left
              ·simp only [Act.put, List.setIfInBounds_toArray, List.set_cons_zero, List.set_cons_succ, i64_w, i32_w]
               rfl
              refine done_ (done_of HT_.out (by kernel_rfl)) ?_
              clear hHeld HT_ HW_
              have hc0 := HX.out.s
              have hc1 := HX.out.i
              have hz1 := HX.out.fz
              have ht0 := K3.out.c0
              have ht1 := K3.out.c1
              have ht2 := K3.out.c2
              have ht3 := K3.out.c3
              have hf0 := K3.out.fz 0
              have hf1 := K3.out.fz 1
              have hf2 := K3.out.fz 2
              have hf3 := K3.out.fz 3
              have hne := N2.out
              have hne2 := N2.out.symm
              have hne3 := N1.out
              have hne4 := N1.out.symm
              have hne5 := N3.out
              have hne6 := N3.out.symm
              go_wp2_with (first | (go_at_call 45; with_reducible refine (begins_calls k s g i HS.out HII.out _ _ ?lx A2.out).mono ?_; (case lx => exact (by repeat (first | (with_reducible first | exact HX.out | apply Lx.drewN | apply Lx.drew | apply Lx.set | apply lx_far N2.out)))); rintro e wb ⟨rfl, hb⟩; have HXn := Aside0.mk (Lx.below (by repeat (first | (with_reducible first | exact HX.out | apply Lx.drewN | apply Lx.drew | apply Lx.set | apply lx_far N2.out))) hb); have HKn := Aside0.mk (Lk.call (by repeat (first | (with_reducible first | exact HK.out | apply Lk.drewN | apply Lk.drew | apply Lk.set | apply lk_setN HB3.out))) hb); have K2n := Aside0.mk (Tk.call (by repeat (first | (with_reducible first | exact K2.out | apply Tk.drewN | apply Tk.drew | apply tk_far N1.out.symm | apply tk_far N3.out))) hb); have K3n := Aside0.mk (Tk.call (by repeat (first | (with_reducible first | exact K3.out | apply Tk.drewN | apply Tk.drew | apply tk_far N2.out.symm))) hb); clear hb; clear HX HK K2 K3; have HX := HXn; have HK := HKn; have K2 := K2n; have K3 := K3n; clear HXn HKn K2n K3n; have hc0 := HX.out.s; have hc1 := HX.out.i; have hz1 := HX.out.fz; have ht0 := K3.out.c0; have ht1 := K3.out.c1; have ht2 := K3.out.c2; have ht3 := K3.out.c3; have hf0 := K3.out.fz 0; have hf1 := K3.out.fz 1; have hf2 := K3.out.fz 2; have hf3 := K3.out.fz 3; have hr0 := K2.out.c0; have hr1 := K2.out.c1; have hr2 := K2.out.c2; have hr3 := K2.out.c3; have hs0 := K2.out.fz 0; have hs1 := K2.out.fz 1; have hs2 := K2.out.fz 2; have hs3 := K2.out.fz 3) | (go_at_call 48; with_reducible refine (quoted_calls k s g i _ _ HS.out HLT.out _ ?lx A4.out).mono ?_; (case lx => exact (by repeat (first | (with_reducible first | exact HX.out | apply Lx.drewN | apply Lx.drew | apply Lx.set | apply lx_far N2.out)))); rintro e wd ⟨rfl, hx, hk⟩; rw [HTX.out]; have HXn := Aside0.mk hx; have HKn := Aside0.mk (Lk.trans (by repeat (first | (with_reducible first | exact HK.out | apply Lk.drewN | apply Lk.drew | apply Lk.set | apply lk_setN HB3.out))) hk); have K2n := Aside0.mk (Tk.lk (by repeat (first | (with_reducible first | exact K2.out | apply Tk.drewN | apply Tk.drew | apply tk_far N1.out.symm | apply tk_far N3.out))) hk N1.out.symm); have K3n := Aside0.mk (Tk.lk (by repeat (first | (with_reducible first | exact K3.out | apply Tk.drewN | apply Tk.drew | apply tk_far N2.out.symm))) hk N2.out.symm); clear hx hk; clear HX HK K2 K3; have HX := HXn; have HK := HKn; have K2 := K2n; have K3 := K3n; clear HXn HKn K2n K3n; have hc0 := HX.out.s; have hc1 := HX.out.i; have hz1 := HX.out.fz; have ht0 := K3.out.c0; have ht1 := K3.out.c1; have ht2 := K3.out.c2; have ht3 := K3.out.c3; have hf0 := K3.out.fz 0; have hf1 := K3.out.fz 1; have hf2 := K3.out.fz 2; have hf3 := K3.out.fz 3; have hr0 := K2.out.c0; have hr1 := K2.out.c1; have hr2 := K2.out.c2; have hr3 := K2.out.c3; have hs0 := K2.out.fz 0; have hs1 := K2.out.fz 1; have hs2 := K2.out.fz 2; have hs3 := K2.out.fz 3))
              refine bodyPost_ret (results_cell_row rfl _ _ b2 33 #[.int .i64 6, .int .i64 (i : Int), .string x, .string (⟨#[]⟩ : ByteArray)] (0, 0) _ rfl (show _ from Tk.set3 (Tk.set2 (Tk.set1 (Tk.set0 (by repeat (first | (with_reducible first | exact K2.out | apply Tk.drewN | apply Tk.drew | apply tk_far N1.out.symm | apply tk_far N3.out))) _) _) _) _) huT rfl (by kernel_rfl)) rfl ?_
              exact ⟨rfl, Lx.far (Lx.far (Lx.far (Lx.far (by repeat (first | (with_reducible first | exact HX.out | apply Lx.drewN | apply Lx.drew | apply Lx.set | apply lx_far N2.out))) N1.out _ _) N1.out _ _) N1.out _ _) N1.out _ _, Lk.setN (Lk.setN (Lk.setN (Lk.setN (by repeat (first | (with_reducible first | exact HK.out | apply Lk.drewN | apply Lk.drew | apply Lk.set | apply lk_setN HB3.out))) HS2.out _ _) HS2.out _ _) HS2.out _ _) HS2.out _ _⟩
          · rw [if_neg h4] at hf
            cases hf
        · rw [if_neg h3] at hf
          obtain ⟨q, hq, hf⟩ := Option.bind_eq_some_iff.mp hf
          have A3 := Aside0.mk hq
          clear hq
          by_cases h4 : q ≥ 0
          · rw [if_pos h4] at hf
            have p3 : (bt s (i : Nat) == 34) = false := by simpa using (fun e => h3 (Or.inl e))
            have p4 : (bt s (i : Nat) == 39) = false := by simpa using (fun e => h3 (Or.inr e))
            have p5 : decide (q ≥ 0) = true := decide_eq_true h4
            have p6 : decide (0 ≤ q) = true := decide_eq_true h4
            have hwi1 : wrap64 ((i : Int) + 1) = ((i + 1 : Nat) : Int) := by have := HLT.out; have := HS.out; unfold wrap64; omega
            obtain ⟨m, hm⟩ : ∃ m, i + 1 = m := ⟨_, rfl⟩
            rw [hm] at hwi1 hf
            have hwi2 : IntKind.i64.wrap ((i : Int) + 1) = (m : Int) := by rw [i64_w]; exact hwi1
            have q6 : ((i : Int) ≤ (m : Int)) = True := eq_true (by omega)
            have q7 : ((m : Int) ≤ (s.size : Int)) = True := eq_true (by have := HLT.out; omega)
            have hxs : (s.extract i m).size = 1 := by rw [ByteArray.size_extract]; have := HLT.out; omega
            obtain ⟨x, hx⟩ : ∃ x : ByteArray, s.extract i m = x := ⟨_, rfl⟩
            rw [hx] at hf hxs
            have p8 : decide ((x.size : Int) > 64) = false := decide_eq_false (by omega)
            have p9 : decide (64 < (x.size : Int)) = false := decide_eq_false (by omega)
            clear h3 h4 hm hxs
            obtain ⟨rfl, rfl, rfl, rfl⟩ : (7 : Int) = kd ∧ x = tx ∧ (⟨#[]⟩ : ByteArray) = nm ∧ m = j := by
              have h := Option.some.inj hf
              simp only [Prod.mk.injEq] at h
              exact h
            clear hf
            go_enter Try.func28, Try.ntmps28
            go_wp2_with (first | ((with_reducible refine gate_dst (N := 2) rfl ?_); (try (refine gate_guard (by rfl) ?_; dsimp only)); refine box_event ?hg (N := 2) ?hd (cs := #[.int .i64 0, .int .i64 0, .string (⟨#[]⟩ : ByteArray), .string (⟨#[]⟩ : ByteArray)]) (t := 33) ?hr ?_; (case hd => rfl); (case hg => rfl); (case hr => first | (go_simp; done) | (go_simp; rfl)); intro b2 hg w2 hbox hb; have HG2 := Aside0.mk hg; have K2 := Aside0.mk (show Tk w2 b2 0 0 ⟨#[]⟩ ⟨#[]⟩ from hbox); have HX2 := Aside0.mk (Lx.below HX.out hb); have HK2 := Aside0.mk (Lk.of_below (g := g) hb); clear hg hbox hb HX; have HX := HX2; have HK := HK2; clear HX2 HK2; have hc0 := HX.out.s; have hc1 := HX.out.i; have hz1 := HX.out.fz) | ((with_reducible refine gate_dst (N := 3) rfl ?_); (try (refine gate_guard (by rfl) ?_; dsimp only)); refine box_event ?hg (N := 3) ?hd (cs := #[.int .i64 0, .int .i64 0, .string (⟨#[]⟩ : ByteArray), .string (⟨#[]⟩ : ByteArray)]) (t := 33) ?hr ?_; (case hd => rfl); (case hg => rfl); (case hr => first | (go_simp; done) | (go_simp; rfl)); intro b3 hg w3 hbox hb; have HG3 := Aside0.mk hg; have K2L := Aside0.mk (Tk.lt K2.out); have K3 := Aside0.mk (show Tk w3 b3 0 0 ⟨#[]⟩ ⟨#[]⟩ from hbox); have HX2 := Aside0.mk (Lx.below HX.out hb); have HK2 := Aside0.mk (Lk.call HK.out hb); have K22 := Aside0.mk (Tk.call K2.out hb); clear hg hbox hb HX HK K2; have HX := HX2; have HK := HK2; have K2 := K22; clear HX2 HK2 K22; have ht0 := K3.out.c0; have ht1 := K3.out.c1; have ht2 := K3.out.c2; have ht3 := K3.out.c3; have hf0 := K3.out.fz 0; have hf1 := K3.out.fz 1; have hf2 := K3.out.fz 2; have hf3 := K3.out.fz 3))
            have HS2 := Aside0.mk (show w.heap.size ≤ b2 by rw [HG2.out]; exact Nat.le_refl _)
            have HS3 := Aside0.mk (show b2 < b3 by rw [HG3.out]; exact K2L.out)
            have N1 := Aside0.mk (show g ≠ b2 by have := HS2.out; have := HG.out; omega)
            have N2 := Aside0.mk (show g ≠ b3 by have := HS2.out; have := HS3.out; have := HG.out; omega)
            have N3 := Aside0.mk (show b2 ≠ b3 by have := HS3.out; omega)
            have HB3 := Aside0.mk (show w.heap.size ≤ b3 by have := HS2.out; have := HS3.out; omega)
            have HX4 : Aside0 (Lx ((((w3.setCell ⟨b3, 0, none⟩ (.int .i64 0)).setCell ⟨b3, 1, none⟩ (.int .i64 (i : Int))).setCell ⟨b3, 2, none⟩ (.string (⟨#[]⟩ : ByteArray))).setCell ⟨b3, 3, none⟩ (.string (⟨#[]⟩ : ByteArray))) g s i) := ⟨Lx.far (Lx.far (Lx.far (Lx.far HX.out N2.out _ _) N2.out _ _) N2.out _ _) N2.out _ _⟩
            have HK4 : Aside0 (Lk g w ((((w3.setCell ⟨b3, 0, none⟩ (.int .i64 0)).setCell ⟨b3, 1, none⟩ (.int .i64 (i : Int))).setCell ⟨b3, 2, none⟩ (.string (⟨#[]⟩ : ByteArray))).setCell ⟨b3, 3, none⟩ (.string (⟨#[]⟩ : ByteArray)))) := ⟨Lk.setN (Lk.setN (Lk.setN (Lk.setN HK.out HB3.out _ _) HB3.out _ _) HB3.out _ _) HB3.out _ _⟩
            have K24 : Aside0 (Tk ((((w3.setCell ⟨b3, 0, none⟩ (.int .i64 0)).setCell ⟨b3, 1, none⟩ (.int .i64 (i : Int))).setCell ⟨b3, 2, none⟩ (.string (⟨#[]⟩ : ByteArray))).setCell ⟨b3, 3, none⟩ (.string (⟨#[]⟩ : ByteArray))) b2 0 0 ⟨#[]⟩ ⟨#[]⟩) := ⟨Tk.far (Tk.far (Tk.far (Tk.far K2.out N3.out _ _) N3.out _ _) N3.out _ _) N3.out _ _⟩
            have K34 : Aside0 (Tk ((((w3.setCell ⟨b3, 0, none⟩ (.int .i64 0)).setCell ⟨b3, 1, none⟩ (.int .i64 (i : Int))).setCell ⟨b3, 2, none⟩ (.string (⟨#[]⟩ : ByteArray))).setCell ⟨b3, 3, none⟩ (.string (⟨#[]⟩ : ByteArray))) b3 0 (i : Int) ⟨#[]⟩ ⟨#[]⟩) := ⟨Tk.set3 (Tk.set2 (Tk.set1 (Tk.set0 K3.out _) _) _) _⟩
            clear HX HK K2 K3 hc0 hc1 hz1 ht0 ht1 ht2 ht3 hf0 hf1 hf2 hf3
            generalize ((((w3.setCell ⟨b3, 0, none⟩ (.int .i64 0)).setCell ⟨b3, 1, none⟩ (.int .i64 (i : Int))).setCell ⟨b3, 2, none⟩ (.string (⟨#[]⟩ : ByteArray))).setCell ⟨b3, 3, none⟩ (.string (⟨#[]⟩ : ByteArray))) = w4 at HX4 HK4 K24 K34 ⊢
            have hc0 := HX4.out.s
            have hc1 := HX4.out.i
            go_wp2
            refine wp_region_quiet_lit (by kernel_rfl) (by kernel_rfl) ?_
            repeat (go_big_quiet_step (fail))
            refine wpQuiet_nil ?_
            intro _ hw'
            obtain ⟨nq, hw''⟩ := hw'
            subst hw''
            go_wp2
            have HX5 : Aside0 (Lx (w4.drewN nq).drew g s i) := ⟨HX4.out⟩
            have HK5 : Aside0 (Lk g w (w4.drewN nq).drew) := ⟨(HK4.out.drewN nq).drew⟩
            have K25 : Aside0 (Tk (w4.drewN nq).drew b2 0 0 ⟨#[]⟩ ⟨#[]⟩) := ⟨K24.out⟩
            have K35 : Aside0 (Tk (w4.drewN nq).drew b3 0 (i : Int) ⟨#[]⟩ ⟨#[]⟩) := ⟨K34.out⟩
            clear HX4 HK4 K24 K34 hc0 hc1
            refine start_ (n := 11) (S := (fun w' => w'.cell? ⟨g, 0, none⟩ = some (.string s) ∧ w'.cell? ⟨g, 1, none⟩ = some (.int .i64 (i : Int)))) (ds := []) #[false, false, false, false, false, false, false, false, false, false, false] (by kernel_rfl) rfl rfl ⟨HX5.out.s, HX5.out.i⟩ (fun hHeld => ?_)
            refine with_tabW lexer_word.tab4 lexer_word.bits4 (fun HT_ HW_ => ?_)
            generalize (w4.drewN nq).drew = w5 at HX5 HK5 K25 K35 hHeld ⊢
            refine pure_ (i := 0) (N := (some 21)) (v := ?_) (a' := ?_) #[true, false, false, false, false, false, false, false, false, false, false] rfl rfl (any_of HT_.out (by kernel_rfl)) (fun _ _ _ h => h) (Or.inl ⟨by rfl, ?_⟩) ?_ ?_
            rotate_left
            ·intro w'
             go_simp
             with_reducible rfl
            rotate_left
            ·simp only [Act.put, List.setIfInBounds_toArray, List.set_cons_zero, List.set_cons_succ, i64_w, i32_w]
             rfl
            refine pure_ (i := 1) (N := (some 22)) (v := ?_) (a' := ?_) #[true, true, false, false, false, false, false, false, false, false, false] rfl rfl (any_of HT_.out (by kernel_rfl)) (fun _ _ _ h => h) (Or.inl ⟨by rfl, ?_⟩) ?_ ?_
            rotate_left
            ·intro w'
             go_simp
             with_reducible rfl
            rotate_left
            ·simp only [Act.put, List.setIfInBounds_toArray, List.set_cons_zero, List.set_cons_succ, i64_w, i32_w]
             rfl
            refine pure_ (i := 2) (N := (some 23)) (v := ?_) (a' := ?_) #[true, true, true, false, false, false, false, false, false, false, false] rfl rfl (any_of HT_.out (by kernel_rfl)) (fun _ _ _ h => h) (Or.inl ⟨by rfl, ?_⟩) ?_ ?_
            rotate_left
            ·intro w'
             go_simp
             with_reducible rfl
            rotate_left
            ·simp only [Act.put, List.setIfInBounds_toArray, List.set_cons_zero, List.set_cons_succ, i64_w, i32_w]
             rfl
            refine take_ (i := 3) (N := (some 24)) (v := ?_) (a' := ?_) #[true, true, true, true, false, false, false, false, false, false, false] rfl rfl (take_ofW HT_.out HW_.out (by kernel_rfl)) (fun _ _ _ h => h) (Or.inl ⟨by rfl, ?_⟩) hHeld ?_ ?_
            rotate_left
            ·rintro w' ⟨s0, s1⟩
             go_simp
             with_reducible rfl
            rotate_left
            ·simp only [Act.put, List.setIfInBounds_toArray, List.set_cons_zero, List.set_cons_succ, i64_w, i32_w]
             rfl
            refine pure_ (i := 4) (N := (some 25)) (v := ?_) (a' := ?_) #[true, true, true, true, true, false, false, false, false, false, false] rfl rfl (any_of HT_.out (by kernel_rfl)) (fun _ _ _ h => h) (Or.inl ⟨by rfl, ?_⟩) ?_ ?_
            rotate_left
            ·intro w'
             go_simp
             with_reducible rfl
            rotate_left
            ·simp only [Act.put, List.setIfInBounds_toArray, List.set_cons_zero, List.set_cons_succ, i64_w, i32_w]
             rfl
            refine pure_ (i := 5) (N := (some 26)) (v := ?_) (a' := ?_) #[true, true, true, true, true, true, false, false, false, false, false] rfl rfl (any_of HT_.out (by kernel_rfl)) (fun _ _ _ h => h) (Or.inl ⟨by rfl, ?_⟩) ?_ ?_
            rotate_left
            ·intro w'
             go_simp
             with_reducible rfl
            rotate_left
            ·simp only [Act.put, List.setIfInBounds_toArray, List.set_cons_zero, List.set_cons_succ, i64_w, i32_w]
             rfl
            refine pure_ (i := 6) (N := (some 27)) (v := ?_) (a' := ?_) #[true, true, true, true, true, true, true, false, false, false, false] rfl rfl (any_of HT_.out (by kernel_rfl)) (fun _ _ _ h => h) (Or.inl ⟨by rfl, ?_⟩) ?_ ?_
            rotate_left
            ·intro w'
             go_simp
             with_reducible rfl
            rotate_left
            ·simp only [Act.put, List.setIfInBounds_toArray, List.set_cons_zero, List.set_cons_succ, i64_w, i32_w]
             rfl
            refine take_ (i := 7) (N := (some 28)) (v := ?_) (a' := ?_) #[true, true, true, true, true, true, true, true, false, false, false] rfl rfl (take_ofW HT_.out HW_.out (by kernel_rfl)) (fun _ _ _ h => h) (Or.inl ⟨by rfl, ?_⟩) hHeld ?_ ?_
            rotate_left
            ·rintro w' ⟨s0, s1⟩
             go_simp
             with_reducible rfl
            rotate_left
            ·simp only [Act.put, List.setIfInBounds_toArray, List.set_cons_zero, List.set_cons_succ, i64_w, i32_w]
             rfl
            refine pure_ (i := 8) (N := (some 29)) (v := ?_) (a' := ?_) #[true, true, true, true, true, true, true, true, true, false, false] rfl rfl (any_of HT_.out (by kernel_rfl)) (fun _ _ _ h => h) (Or.inl ⟨by rfl, ?_⟩) ?_ ?_
            rotate_left
            ·intro w'
             go_simp
             with_reducible rfl
            rotate_left
            ·simp only [Act.put, List.setIfInBounds_toArray, List.set_cons_zero, List.set_cons_succ, i64_w, i32_w]
             rfl
            refine one_ (i := 9) (N := (some 30)) #[true, true, true, true, true, true, true, true, true, true, false] rfl rfl (one_of HT_.out (by kernel_rfl)) (by decide) (fun K hK => ?_)
            refine goes_ Try.func42 (by kernel_rfl) rfl #[.string (s.extract i s.size)] (by rfl) rfl rfl goa_ ?_
            refine (number_Scan.calls _ n _ A1.out).mono ?_
            rintro e w6 ⟨rfl, hb⟩
            refine ⟨_, rfl, ?_⟩
            have HX := Aside0.mk (HX5.out.below hb)
            have HK := Aside0.mk (HK5.out.call hb)
            have K2 := Aside0.mk (K25.out.call hb)
            have K3 := Aside0.mk (K35.out.call hb)
            clear hb HX5 HK5 K25 K35
            refine hK.out _ _ ⟨HX.out.s, HX.out.i⟩ (fun hHeld => ?_)
            clear hK K
            refine norm_ (a' := ?_) ?_ ?_
            rotate_left
            ·show Act.put _ (some 30) _ = _
             simp only [Act.put, List.setIfInBounds_toArray, List.set_cons_zero, List.set_cons_succ, i64_w, i32_w]
             rfl
            refine pure_ (i := 10) (N := (some 6)) (v := ?_) (a' := ?_) #[true, true, true, true, true, true, true, true, true, true, true] rfl rfl (any_of HT_.out (by kernel_rfl)) (fun _ _ _ h => h) (Or.inl ⟨by rfl, ?_⟩) ?_ ?_
            rotate_left
            ·intro w'
             go_simp
             with_reducible rfl
            rotate_left
            ·simp only [Act.put, List.setIfInBounds_toArray, List.set_cons_zero, List.set_cons_succ, i64_w, i32_w]
             rfl
            refine done_ (done_of HT_.out (by kernel_rfl)) ?_
            clear hHeld HT_ HW_
            have hc0 := HX.out.s
            have hc1 := HX.out.i
            have hz1 := HX.out.fz
            have ht0 := K3.out.c0
            have ht1 := K3.out.c1
            have ht2 := K3.out.c2
            have ht3 := K3.out.c3
            have hf0 := K3.out.fz 0
            have hf1 := K3.out.fz 1
            have hf2 := K3.out.fz 2
            have hf3 := K3.out.fz 3
            have hne := N2.out
            have hne2 := N2.out.symm
            have hne3 := N1.out
            have hne4 := N1.out.symm
            have hne5 := N3.out
            have hne6 := N3.out.symm
            go_wp2_with (first | (go_at_call 45; with_reducible refine (begins_calls k s g i HS.out HII.out _ _ ?lx A2.out).mono ?_; (case lx => exact (by repeat (first | (with_reducible first | exact HX.out | apply Lx.drewN | apply Lx.drew | apply Lx.set | apply lx_far N2.out)))); rintro e wb ⟨rfl, hb⟩; have HXn := Aside0.mk (Lx.below (by repeat (first | (with_reducible first | exact HX.out | apply Lx.drewN | apply Lx.drew | apply Lx.set | apply lx_far N2.out))) hb); have HKn := Aside0.mk (Lk.call (by repeat (first | (with_reducible first | exact HK.out | apply Lk.drewN | apply Lk.drew | apply Lk.set | apply lk_setN HB3.out))) hb); have K2n := Aside0.mk (Tk.call (by repeat (first | (with_reducible first | exact K2.out | apply Tk.drewN | apply Tk.drew | apply tk_far N1.out.symm | apply tk_far N3.out))) hb); have K3n := Aside0.mk (Tk.call (by repeat (first | (with_reducible first | exact K3.out | apply Tk.drewN | apply Tk.drew | apply tk_far N2.out.symm))) hb); clear hb; clear HX HK K2 K3; have HX := HXn; have HK := HKn; have K2 := K2n; have K3 := K3n; clear HXn HKn K2n K3n; have hc0 := HX.out.s; have hc1 := HX.out.i; have hz1 := HX.out.fz; have ht0 := K3.out.c0; have ht1 := K3.out.c1; have ht2 := K3.out.c2; have ht3 := K3.out.c3; have hf0 := K3.out.fz 0; have hf1 := K3.out.fz 1; have hf2 := K3.out.fz 2; have hf3 := K3.out.fz 3; have hr0 := K2.out.c0; have hr1 := K2.out.c1; have hr2 := K2.out.c2; have hr3 := K2.out.c3; have hs0 := K2.out.fz 0; have hs1 := K2.out.fz 1; have hs2 := K2.out.fz 2; have hs3 := K2.out.fz 3) | (go_at_call 35; refine (strings_IndexByte.calls _ _ _ _ A3.out).mono ?_; rintro e wq ⟨rfl, ⟨nx, rfl⟩⟩))
            go_region
            go_wp2
            refine bodyPost_ret (results_cell_row rfl _ _ b2 33 #[.int .i64 7, .int .i64 (i : Int), .string x, .string (⟨#[]⟩ : ByteArray)] (0, 0) _ rfl (show _ from Tk.set3 (Tk.set2 (Tk.set1 (Tk.set0 (by repeat (first | (with_reducible first | exact K2.out | apply Tk.drewN | apply Tk.drew | apply tk_far N1.out.symm | apply tk_far N3.out))) _) _) _) _) huT rfl (by kernel_rfl)) rfl ?_
            exact ⟨rfl, Lx.far (Lx.far (Lx.far (Lx.far (Lx.setv (by repeat (first | (with_reducible first | exact HX.out | apply Lx.drewN | apply Lx.drew | apply Lx.set | apply lx_far N2.out))) (by first | with_reducible rfl | with_reducible exact hwi1)) N1.out _ _) N1.out _ _) N1.out _ _) N1.out _ _, Lk.setN (Lk.setN (Lk.setN (Lk.setN (by repeat (first | (with_reducible first | exact HK.out | apply Lk.drewN | apply Lk.drew | apply Lk.set | apply lk_setN HB3.out))) HS2.out _ _) HS2.out _ _) HS2.out _ _) HS2.out _ _⟩
          · rw [if_neg h4] at hf
            cases hf
      · rw [if_pos rfl] at hf
        obtain ⟨⟨l, e⟩, ht, hf⟩ := Option.bind_eq_some_iff.mp hf
        have A4 := Aside0.mk ht
        clear ht
        try dsimp only at hf
        by_cases h3 : l.length ≤ 64 ∧ e ≤ s.size
        · rw [if_pos h3] at hf
          obtain ⟨p, hp, hf⟩ := Option.bind_eq_some_iff.mp hf
          have A5 := Aside0.mk hp
          clear hp
          obtain ⟨x, hx⟩ : ∃ x : ByteArray, (⟨l.toArray⟩ : ByteArray) = x := ⟨_, rfl⟩
          have HTX := Aside0.mk hx
          have hxs : x.size ≤ 64 := by
            rw [← hx]
            show l.toArray.size ≤ 64
            rw [List.size_toArray]
            exact h3.1
          have p8 : decide ((x.size : Int) > 64) = false := decide_eq_false (by omega)
          have p9 : decide (64 < (x.size : Int)) = false := decide_eq_false (by omega)
          have HE := Aside0.mk h3.2
          have HWE := Aside0.mk (show IntKind.i64.wrap (e : Int) = (e : Int) from wrapE e 0 (by have := HE.out; have := HS.out; omega))
          have hwe1 : wrap64 ((e : Int) + 1) = ((e + 1 : Nat) : Int) := by have := HE.out; have := HS.out; unfold wrap64; omega
          rw [hx] at hf
          clear h3 hxs hx
          cases p
          · rw [if_neg (by decide)] at hf
            obtain ⟨rfl, rfl, rfl, rfl⟩ : (1 : Int) = kd ∧ x = tx ∧ (⟨#[]⟩ : ByteArray) = nm ∧ e = j := by
              have h := Option.some.inj hf
              simp only [Prod.mk.injEq] at h
              exact h
            clear hf
            go_enter Try.func28, Try.ntmps28
            go_wp2_with (first | ((with_reducible refine gate_dst (N := 2) rfl ?_); (try (refine gate_guard (by rfl) ?_; dsimp only)); refine box_event ?hg (N := 2) ?hd (cs := #[.int .i64 0, .int .i64 0, .string (⟨#[]⟩ : ByteArray), .string (⟨#[]⟩ : ByteArray)]) (t := 33) ?hr ?_; (case hd => rfl); (case hg => rfl); (case hr => first | (go_simp; done) | (go_simp; rfl)); intro b2 hg w2 hbox hb; have HG2 := Aside0.mk hg; have K2 := Aside0.mk (show Tk w2 b2 0 0 ⟨#[]⟩ ⟨#[]⟩ from hbox); have HX2 := Aside0.mk (Lx.below HX.out hb); have HK2 := Aside0.mk (Lk.of_below (g := g) hb); clear hg hbox hb HX; have HX := HX2; have HK := HK2; clear HX2 HK2; have hc0 := HX.out.s; have hc1 := HX.out.i; have hz1 := HX.out.fz) | ((with_reducible refine gate_dst (N := 3) rfl ?_); (try (refine gate_guard (by rfl) ?_; dsimp only)); refine box_event ?hg (N := 3) ?hd (cs := #[.int .i64 0, .int .i64 0, .string (⟨#[]⟩ : ByteArray), .string (⟨#[]⟩ : ByteArray)]) (t := 33) ?hr ?_; (case hd => rfl); (case hg => rfl); (case hr => first | (go_simp; done) | (go_simp; rfl)); intro b3 hg w3 hbox hb; have HG3 := Aside0.mk hg; have K2L := Aside0.mk (Tk.lt K2.out); have K3 := Aside0.mk (show Tk w3 b3 0 0 ⟨#[]⟩ ⟨#[]⟩ from hbox); have HX2 := Aside0.mk (Lx.below HX.out hb); have HK2 := Aside0.mk (Lk.call HK.out hb); have K22 := Aside0.mk (Tk.call K2.out hb); clear hg hbox hb HX HK K2; have HX := HX2; have HK := HK2; have K2 := K22; clear HX2 HK2 K22; have ht0 := K3.out.c0; have ht1 := K3.out.c1; have ht2 := K3.out.c2; have ht3 := K3.out.c3; have hf0 := K3.out.fz 0; have hf1 := K3.out.fz 1; have hf2 := K3.out.fz 2; have hf3 := K3.out.fz 3))
            have HS2 := Aside0.mk (show w.heap.size ≤ b2 by rw [HG2.out]; exact Nat.le_refl _)
            have HS3 := Aside0.mk (show b2 < b3 by rw [HG3.out]; exact K2L.out)
            have N1 := Aside0.mk (show g ≠ b2 by have := HS2.out; have := HG.out; omega)
            have N2 := Aside0.mk (show g ≠ b3 by have := HS2.out; have := HS3.out; have := HG.out; omega)
            have N3 := Aside0.mk (show b2 ≠ b3 by have := HS3.out; omega)
            have HB3 := Aside0.mk (show w.heap.size ≤ b3 by have := HS2.out; have := HS3.out; omega)
            have HX4 : Aside0 (Lx ((((w3.setCell ⟨b3, 0, none⟩ (.int .i64 0)).setCell ⟨b3, 1, none⟩ (.int .i64 (i : Int))).setCell ⟨b3, 2, none⟩ (.string (⟨#[]⟩ : ByteArray))).setCell ⟨b3, 3, none⟩ (.string (⟨#[]⟩ : ByteArray))) g s i) := ⟨Lx.far (Lx.far (Lx.far (Lx.far HX.out N2.out _ _) N2.out _ _) N2.out _ _) N2.out _ _⟩
            have HK4 : Aside0 (Lk g w ((((w3.setCell ⟨b3, 0, none⟩ (.int .i64 0)).setCell ⟨b3, 1, none⟩ (.int .i64 (i : Int))).setCell ⟨b3, 2, none⟩ (.string (⟨#[]⟩ : ByteArray))).setCell ⟨b3, 3, none⟩ (.string (⟨#[]⟩ : ByteArray)))) := ⟨Lk.setN (Lk.setN (Lk.setN (Lk.setN HK.out HB3.out _ _) HB3.out _ _) HB3.out _ _) HB3.out _ _⟩
            have K24 : Aside0 (Tk ((((w3.setCell ⟨b3, 0, none⟩ (.int .i64 0)).setCell ⟨b3, 1, none⟩ (.int .i64 (i : Int))).setCell ⟨b3, 2, none⟩ (.string (⟨#[]⟩ : ByteArray))).setCell ⟨b3, 3, none⟩ (.string (⟨#[]⟩ : ByteArray))) b2 0 0 ⟨#[]⟩ ⟨#[]⟩) := ⟨Tk.far (Tk.far (Tk.far (Tk.far K2.out N3.out _ _) N3.out _ _) N3.out _ _) N3.out _ _⟩
            have K34 : Aside0 (Tk ((((w3.setCell ⟨b3, 0, none⟩ (.int .i64 0)).setCell ⟨b3, 1, none⟩ (.int .i64 (i : Int))).setCell ⟨b3, 2, none⟩ (.string (⟨#[]⟩ : ByteArray))).setCell ⟨b3, 3, none⟩ (.string (⟨#[]⟩ : ByteArray))) b3 0 (i : Int) ⟨#[]⟩ ⟨#[]⟩) := ⟨Tk.set3 (Tk.set2 (Tk.set1 (Tk.set0 K3.out _) _) _) _⟩
            clear HX HK K2 K3 hc0 hc1 hz1 ht0 ht1 ht2 ht3 hf0 hf1 hf2 hf3
            generalize ((((w3.setCell ⟨b3, 0, none⟩ (.int .i64 0)).setCell ⟨b3, 1, none⟩ (.int .i64 (i : Int))).setCell ⟨b3, 2, none⟩ (.string (⟨#[]⟩ : ByteArray))).setCell ⟨b3, 3, none⟩ (.string (⟨#[]⟩ : ByteArray))) = w4 at HX4 HK4 K24 K34 ⊢
            have hc0 := HX4.out.s
            have hc1 := HX4.out.i
            go_wp2
            refine wp_region_quiet_lit (by kernel_rfl) (by kernel_rfl) ?_
            repeat (go_big_quiet_step (fail))
            refine wpQuiet_nil ?_
            intro _ hw'
            obtain ⟨nq, hw''⟩ := hw'
            subst hw''
            go_wp2
            have HX5 : Aside0 (Lx (w4.drewN nq).drew g s i) := ⟨HX4.out⟩
            have HK5 : Aside0 (Lk g w (w4.drewN nq).drew) := ⟨(HK4.out.drewN nq).drew⟩
            have K25 : Aside0 (Tk (w4.drewN nq).drew b2 0 0 ⟨#[]⟩ ⟨#[]⟩) := ⟨K24.out⟩
            have K35 : Aside0 (Tk (w4.drewN nq).drew b3 0 (i : Int) ⟨#[]⟩ ⟨#[]⟩) := ⟨K34.out⟩
            clear HX4 HK4 K24 K34 hc0 hc1
            refine start_ (n := 11) (S := (fun w' => w'.cell? ⟨g, 0, none⟩ = some (.string s) ∧ w'.cell? ⟨g, 1, none⟩ = some (.int .i64 (i : Int)))) (ds := []) #[false, false, false, false, false, false, false, false, false, false, false] (by kernel_rfl) rfl rfl ⟨HX5.out.s, HX5.out.i⟩ (fun hHeld => ?_)
            refine with_tabW lexer_word.tab4 lexer_word.bits4 (fun HT_ HW_ => ?_)
            generalize (w4.drewN nq).drew = w5 at HX5 HK5 K25 K35 hHeld ⊢
            refine pure_ (i := 0) (N := (some 21)) (v := ?_) (a' := ?_) #[true, false, false, false, false, false, false, false, false, false, false] rfl rfl (any_of HT_.out (by kernel_rfl)) (fun _ _ _ h => h) (Or.inl ⟨by rfl, ?_⟩) ?_ ?_
            rotate_left
            ·intro w'
             go_simp
             with_reducible rfl
            rotate_left
            ·simp only [Act.put, List.setIfInBounds_toArray, List.set_cons_zero, List.set_cons_succ, i64_w, i32_w]
             rfl
            refine pure_ (i := 1) (N := (some 22)) (v := ?_) (a' := ?_) #[true, true, false, false, false, false, false, false, false, false, false] rfl rfl (any_of HT_.out (by kernel_rfl)) (fun _ _ _ h => h) (Or.inl ⟨by rfl, ?_⟩) ?_ ?_
            rotate_left
            ·intro w'
             go_simp
             with_reducible rfl
            rotate_left
            ·simp only [Act.put, List.setIfInBounds_toArray, List.set_cons_zero, List.set_cons_succ, i64_w, i32_w]
             rfl
            refine pure_ (i := 2) (N := (some 23)) (v := ?_) (a' := ?_) #[true, true, true, false, false, false, false, false, false, false, false] rfl rfl (any_of HT_.out (by kernel_rfl)) (fun _ _ _ h => h) (Or.inl ⟨by rfl, ?_⟩) ?_ ?_
            rotate_left
            ·intro w'
             go_simp
             with_reducible rfl
            rotate_left
            ·simp only [Act.put, List.setIfInBounds_toArray, List.set_cons_zero, List.set_cons_succ, i64_w, i32_w]
             rfl
            refine take_ (i := 3) (N := (some 24)) (v := ?_) (a' := ?_) #[true, true, true, true, false, false, false, false, false, false, false] rfl rfl (take_ofW HT_.out HW_.out (by kernel_rfl)) (fun _ _ _ h => h) (Or.inl ⟨by rfl, ?_⟩) hHeld ?_ ?_
            rotate_left
            ·rintro w' ⟨s0, s1⟩
             go_simp
             with_reducible rfl
            rotate_left
            ·simp only [Act.put, List.setIfInBounds_toArray, List.set_cons_zero, List.set_cons_succ, i64_w, i32_w]
             rfl
            refine pure_ (i := 4) (N := (some 25)) (v := ?_) (a' := ?_) #[true, true, true, true, true, false, false, false, false, false, false] rfl rfl (any_of HT_.out (by kernel_rfl)) (fun _ _ _ h => h) (Or.inl ⟨by rfl, ?_⟩) ?_ ?_
            rotate_left
            ·intro w'
             go_simp
             with_reducible rfl
            rotate_left
            ·simp only [Act.put, List.setIfInBounds_toArray, List.set_cons_zero, List.set_cons_succ, i64_w, i32_w]
             rfl
            refine pure_ (i := 5) (N := (some 26)) (v := ?_) (a' := ?_) #[true, true, true, true, true, true, false, false, false, false, false] rfl rfl (any_of HT_.out (by kernel_rfl)) (fun _ _ _ h => h) (Or.inl ⟨by rfl, ?_⟩) ?_ ?_
            rotate_left
            ·intro w'
             go_simp
             with_reducible rfl
            rotate_left
            ·simp only [Act.put, List.setIfInBounds_toArray, List.set_cons_zero, List.set_cons_succ, i64_w, i32_w]
             rfl
            refine pure_ (i := 6) (N := (some 27)) (v := ?_) (a' := ?_) #[true, true, true, true, true, true, true, false, false, false, false] rfl rfl (any_of HT_.out (by kernel_rfl)) (fun _ _ _ h => h) (Or.inl ⟨by rfl, ?_⟩) ?_ ?_
            rotate_left
            ·intro w'
             go_simp
             with_reducible rfl
            rotate_left
            ·simp only [Act.put, List.setIfInBounds_toArray, List.set_cons_zero, List.set_cons_succ, i64_w, i32_w]
             rfl
            refine take_ (i := 7) (N := (some 28)) (v := ?_) (a' := ?_) #[true, true, true, true, true, true, true, true, false, false, false] rfl rfl (take_ofW HT_.out HW_.out (by kernel_rfl)) (fun _ _ _ h => h) (Or.inl ⟨by rfl, ?_⟩) hHeld ?_ ?_
            rotate_left
            ·rintro w' ⟨s0, s1⟩
             go_simp
             with_reducible rfl
            rotate_left
            ·simp only [Act.put, List.setIfInBounds_toArray, List.set_cons_zero, List.set_cons_succ, i64_w, i32_w]
             rfl
            refine pure_ (i := 8) (N := (some 29)) (v := ?_) (a' := ?_) #[true, true, true, true, true, true, true, true, true, false, false] rfl rfl (any_of HT_.out (by kernel_rfl)) (fun _ _ _ h => h) (Or.inl ⟨by rfl, ?_⟩) ?_ ?_
            rotate_left
            ·intro w'
             go_simp
             with_reducible rfl
            rotate_left
            ·simp only [Act.put, List.setIfInBounds_toArray, List.set_cons_zero, List.set_cons_succ, i64_w, i32_w]
             rfl
            refine one_ (i := 9) (N := (some 30)) #[true, true, true, true, true, true, true, true, true, true, false] rfl rfl (one_of HT_.out (by kernel_rfl)) (by decide) (fun K hK => ?_)
            refine goes_ Try.func42 (by kernel_rfl) rfl #[.string (s.extract i s.size)] (by rfl) rfl rfl goa_ ?_
            refine (number_Scan.calls _ n _ A1.out).mono ?_
            rintro e w6 ⟨rfl, hb⟩
            refine ⟨_, rfl, ?_⟩
            have HX := Aside0.mk (HX5.out.below hb)
            have HK := Aside0.mk (HK5.out.call hb)
            have K2 := Aside0.mk (K25.out.call hb)
            have K3 := Aside0.mk (K35.out.call hb)
            clear hb HX5 HK5 K25 K35
            refine hK.out _ _ ⟨HX.out.s, HX.out.i⟩ (fun hHeld => ?_)
            clear hK K
            refine norm_ (a' := ?_) ?_ ?_
            rotate_left
            ·show Act.put _ (some 30) _ = _
             simp only [Act.put, List.setIfInBounds_toArray, List.set_cons_zero, List.set_cons_succ, i64_w, i32_w]
             rfl
            refine pure_ (i := 10) (N := (some 6)) (v := ?_) (a' := ?_) #[true, true, true, true, true, true, true, true, true, true, true] rfl rfl (any_of HT_.out (by kernel_rfl)) (fun _ _ _ h => h) (Or.inl ⟨by rfl, ?_⟩) ?_ ?_
            rotate_left
            ·intro w'
             go_simp
             with_reducible rfl
            rotate_left
            ·simp only [Act.put, List.setIfInBounds_toArray, List.set_cons_zero, List.set_cons_succ, i64_w, i32_w]
             rfl
            refine done_ (done_of HT_.out (by kernel_rfl)) ?_
            clear hHeld HT_ HW_
            have hc0 := HX.out.s
            have hc1 := HX.out.i
            have hz1 := HX.out.fz
            have ht0 := K3.out.c0
            have ht1 := K3.out.c1
            have ht2 := K3.out.c2
            have ht3 := K3.out.c3
            have hf0 := K3.out.fz 0
            have hf1 := K3.out.fz 1
            have hf2 := K3.out.fz 2
            have hf3 := K3.out.fz 3
            have hne := N2.out
            have hne2 := N2.out.symm
            have hne3 := N1.out
            have hne4 := N1.out.symm
            have hne5 := N3.out
            have hne6 := N3.out.symm
            go_wp2_with (first | (go_at_call 45; with_reducible refine (begins_calls k s g i HS.out HII.out _ _ ?lx A2.out).mono ?_; (case lx => exact (by repeat (first | (with_reducible first | exact HX.out | apply Lx.drewN | apply Lx.drew | apply Lx.set | apply lx_far N2.out)))); rintro e wb ⟨rfl, hb⟩; have HXn := Aside0.mk (Lx.below (by repeat (first | (with_reducible first | exact HX.out | apply Lx.drewN | apply Lx.drew | apply Lx.set | apply lx_far N2.out))) hb); have HKn := Aside0.mk (Lk.call (by repeat (first | (with_reducible first | exact HK.out | apply Lk.drewN | apply Lk.drew | apply Lk.set | apply lk_setN HB3.out))) hb); have K2n := Aside0.mk (Tk.call (by repeat (first | (with_reducible first | exact K2.out | apply Tk.drewN | apply Tk.drew | apply tk_far N1.out.symm | apply tk_far N3.out))) hb); have K3n := Aside0.mk (Tk.call (by repeat (first | (with_reducible first | exact K3.out | apply Tk.drewN | apply Tk.drew | apply tk_far N2.out.symm))) hb); clear hb; clear HX HK K2 K3; have HX := HXn; have HK := HKn; have K2 := K2n; have K3 := K3n; clear HXn HKn K2n K3n; have hc0 := HX.out.s; have hc1 := HX.out.i; have hz1 := HX.out.fz; have ht0 := K3.out.c0; have ht1 := K3.out.c1; have ht2 := K3.out.c2; have ht3 := K3.out.c3; have hf0 := K3.out.fz 0; have hf1 := K3.out.fz 1; have hf2 := K3.out.fz 2; have hf3 := K3.out.fz 3; have hr0 := K2.out.c0; have hr1 := K2.out.c1; have hr2 := K2.out.c2; have hr3 := K2.out.c3; have hs0 := K2.out.fz 0; have hs1 := K2.out.fz 1; have hs2 := K2.out.fz 2; have hs3 := K2.out.fz 3) | (go_at_call 46; with_reducible refine (ident_calls k s g i _ _ HS.out HII.out _ ?lx A4.out).mono ?_; (case lx => exact (by repeat (first | (with_reducible first | exact HX.out | apply Lx.drewN | apply Lx.drew | apply Lx.set | apply lx_far N2.out)))); rintro e wd ⟨rfl, hx, hk⟩; rw [HTX.out]; have HXn := Aside0.mk hx; have HKn := Aside0.mk (Lk.trans (by repeat (first | (with_reducible first | exact HK.out | apply Lk.drewN | apply Lk.drew | apply Lk.set | apply lk_setN HB3.out))) hk); have K2n := Aside0.mk (Tk.lk (by repeat (first | (with_reducible first | exact K2.out | apply Tk.drewN | apply Tk.drew | apply tk_far N1.out.symm | apply tk_far N3.out))) hk N1.out.symm); have K3n := Aside0.mk (Tk.lk (by repeat (first | (with_reducible first | exact K3.out | apply Tk.drewN | apply Tk.drew | apply tk_far N2.out.symm))) hk N2.out.symm); clear hx hk; clear HX HK K2 K3; have HX := HXn; have HK := HKn; have K2 := K2n; have K3 := K3n; clear HXn HKn K2n K3n; have hc0 := HX.out.s; have hc1 := HX.out.i; have hz1 := HX.out.fz; have ht0 := K3.out.c0; have ht1 := K3.out.c1; have ht2 := K3.out.c2; have ht3 := K3.out.c3; have hf0 := K3.out.fz 0; have hf1 := K3.out.fz 1; have hf2 := K3.out.fz 2; have hf3 := K3.out.fz 3; have hr0 := K2.out.c0; have hr1 := K2.out.c1; have hr2 := K2.out.c2; have hr3 := K2.out.c3; have hs0 := K2.out.fz 0; have hs1 := K2.out.fz 1; have hs2 := K2.out.fz 2; have hs3 := K2.out.fz 3) | (go_at_call 43; with_reducible refine (is_paren0 s g e e HS.out HWE.out _ _ ?lx A5.out).mono ?_; (case lx => exact (by repeat (first | (with_reducible first | exact HX.out | apply Lx.drewN | apply Lx.drew | apply Lx.set | apply lx_far N2.out)))); rintro e wi ⟨rfl, ⟨ni, rfl⟩⟩))
            refine bodyPost_ret (results_cell_row rfl _ _ b2 33 #[.int .i64 1, .int .i64 (i : Int), .string x, .string (⟨#[]⟩ : ByteArray)] (0, 0) _ rfl (show _ from Tk.set3 (Tk.set2 (Tk.set1 (Tk.set0 (by repeat (first | (with_reducible first | exact K2.out | apply Tk.drewN | apply Tk.drew | apply tk_far N1.out.symm | apply tk_far N3.out))) _) _) _) _) huT rfl (by kernel_rfl)) rfl ?_
            exact ⟨rfl, Lx.far (Lx.far (Lx.far (Lx.far (by repeat (first | (with_reducible first | exact HX.out | apply Lx.drewN | apply Lx.drew | apply Lx.set | apply lx_far N2.out))) N1.out _ _) N1.out _ _) N1.out _ _) N1.out _ _, Lk.setN (Lk.setN (Lk.setN (Lk.setN (by repeat (first | (with_reducible first | exact HK.out | apply Lk.drewN | apply Lk.drew | apply Lk.set | apply lk_setN HB3.out))) HS2.out _ _) HS2.out _ _) HS2.out _ _) HS2.out _ _⟩
          · rw [if_pos rfl] at hf
            obtain ⟨rfl, rfl, rfl, rfl⟩ : (2 : Int) = kd ∧ x = tx ∧ (⟨#[]⟩ : ByteArray) = nm ∧ e + 1 = j := by
              have h := Option.some.inj hf
              simp only [Prod.mk.injEq] at h
              exact h
            clear hf
            go_enter Try.func28, Try.ntmps28
            go_wp2_with (first | ((with_reducible refine gate_dst (N := 2) rfl ?_); (try (refine gate_guard (by rfl) ?_; dsimp only)); refine box_event ?hg (N := 2) ?hd (cs := #[.int .i64 0, .int .i64 0, .string (⟨#[]⟩ : ByteArray), .string (⟨#[]⟩ : ByteArray)]) (t := 33) ?hr ?_; (case hd => rfl); (case hg => rfl); (case hr => first | (go_simp; done) | (go_simp; rfl)); intro b2 hg w2 hbox hb; have HG2 := Aside0.mk hg; have K2 := Aside0.mk (show Tk w2 b2 0 0 ⟨#[]⟩ ⟨#[]⟩ from hbox); have HX2 := Aside0.mk (Lx.below HX.out hb); have HK2 := Aside0.mk (Lk.of_below (g := g) hb); clear hg hbox hb HX; have HX := HX2; have HK := HK2; clear HX2 HK2; have hc0 := HX.out.s; have hc1 := HX.out.i; have hz1 := HX.out.fz) | ((with_reducible refine gate_dst (N := 3) rfl ?_); (try (refine gate_guard (by rfl) ?_; dsimp only)); refine box_event ?hg (N := 3) ?hd (cs := #[.int .i64 0, .int .i64 0, .string (⟨#[]⟩ : ByteArray), .string (⟨#[]⟩ : ByteArray)]) (t := 33) ?hr ?_; (case hd => rfl); (case hg => rfl); (case hr => first | (go_simp; done) | (go_simp; rfl)); intro b3 hg w3 hbox hb; have HG3 := Aside0.mk hg; have K2L := Aside0.mk (Tk.lt K2.out); have K3 := Aside0.mk (show Tk w3 b3 0 0 ⟨#[]⟩ ⟨#[]⟩ from hbox); have HX2 := Aside0.mk (Lx.below HX.out hb); have HK2 := Aside0.mk (Lk.call HK.out hb); have K22 := Aside0.mk (Tk.call K2.out hb); clear hg hbox hb HX HK K2; have HX := HX2; have HK := HK2; have K2 := K22; clear HX2 HK2 K22; have ht0 := K3.out.c0; have ht1 := K3.out.c1; have ht2 := K3.out.c2; have ht3 := K3.out.c3; have hf0 := K3.out.fz 0; have hf1 := K3.out.fz 1; have hf2 := K3.out.fz 2; have hf3 := K3.out.fz 3))
            have HS2 := Aside0.mk (show w.heap.size ≤ b2 by rw [HG2.out]; exact Nat.le_refl _)
            have HS3 := Aside0.mk (show b2 < b3 by rw [HG3.out]; exact K2L.out)
            have N1 := Aside0.mk (show g ≠ b2 by have := HS2.out; have := HG.out; omega)
            have N2 := Aside0.mk (show g ≠ b3 by have := HS2.out; have := HS3.out; have := HG.out; omega)
            have N3 := Aside0.mk (show b2 ≠ b3 by have := HS3.out; omega)
            have HB3 := Aside0.mk (show w.heap.size ≤ b3 by have := HS2.out; have := HS3.out; omega)
            have HX4 : Aside0 (Lx ((((w3.setCell ⟨b3, 0, none⟩ (.int .i64 0)).setCell ⟨b3, 1, none⟩ (.int .i64 (i : Int))).setCell ⟨b3, 2, none⟩ (.string (⟨#[]⟩ : ByteArray))).setCell ⟨b3, 3, none⟩ (.string (⟨#[]⟩ : ByteArray))) g s i) := ⟨Lx.far (Lx.far (Lx.far (Lx.far HX.out N2.out _ _) N2.out _ _) N2.out _ _) N2.out _ _⟩
            have HK4 : Aside0 (Lk g w ((((w3.setCell ⟨b3, 0, none⟩ (.int .i64 0)).setCell ⟨b3, 1, none⟩ (.int .i64 (i : Int))).setCell ⟨b3, 2, none⟩ (.string (⟨#[]⟩ : ByteArray))).setCell ⟨b3, 3, none⟩ (.string (⟨#[]⟩ : ByteArray)))) := ⟨Lk.setN (Lk.setN (Lk.setN (Lk.setN HK.out HB3.out _ _) HB3.out _ _) HB3.out _ _) HB3.out _ _⟩
            have K24 : Aside0 (Tk ((((w3.setCell ⟨b3, 0, none⟩ (.int .i64 0)).setCell ⟨b3, 1, none⟩ (.int .i64 (i : Int))).setCell ⟨b3, 2, none⟩ (.string (⟨#[]⟩ : ByteArray))).setCell ⟨b3, 3, none⟩ (.string (⟨#[]⟩ : ByteArray))) b2 0 0 ⟨#[]⟩ ⟨#[]⟩) := ⟨Tk.far (Tk.far (Tk.far (Tk.far K2.out N3.out _ _) N3.out _ _) N3.out _ _) N3.out _ _⟩
            have K34 : Aside0 (Tk ((((w3.setCell ⟨b3, 0, none⟩ (.int .i64 0)).setCell ⟨b3, 1, none⟩ (.int .i64 (i : Int))).setCell ⟨b3, 2, none⟩ (.string (⟨#[]⟩ : ByteArray))).setCell ⟨b3, 3, none⟩ (.string (⟨#[]⟩ : ByteArray))) b3 0 (i : Int) ⟨#[]⟩ ⟨#[]⟩) := ⟨Tk.set3 (Tk.set2 (Tk.set1 (Tk.set0 K3.out _) _) _) _⟩
            clear HX HK K2 K3 hc0 hc1 hz1 ht0 ht1 ht2 ht3 hf0 hf1 hf2 hf3
            generalize ((((w3.setCell ⟨b3, 0, none⟩ (.int .i64 0)).setCell ⟨b3, 1, none⟩ (.int .i64 (i : Int))).setCell ⟨b3, 2, none⟩ (.string (⟨#[]⟩ : ByteArray))).setCell ⟨b3, 3, none⟩ (.string (⟨#[]⟩ : ByteArray))) = w4 at HX4 HK4 K24 K34 ⊢
            have hc0 := HX4.out.s
            have hc1 := HX4.out.i
            go_wp2
            refine wp_region_quiet_lit (by kernel_rfl) (by kernel_rfl) ?_
            repeat (go_big_quiet_step (fail))
            refine wpQuiet_nil ?_
            intro _ hw'
            obtain ⟨nq, hw''⟩ := hw'
            subst hw''
            go_wp2
            have HX5 : Aside0 (Lx (w4.drewN nq).drew g s i) := ⟨HX4.out⟩
            have HK5 : Aside0 (Lk g w (w4.drewN nq).drew) := ⟨(HK4.out.drewN nq).drew⟩
            have K25 : Aside0 (Tk (w4.drewN nq).drew b2 0 0 ⟨#[]⟩ ⟨#[]⟩) := ⟨K24.out⟩
            have K35 : Aside0 (Tk (w4.drewN nq).drew b3 0 (i : Int) ⟨#[]⟩ ⟨#[]⟩) := ⟨K34.out⟩
            clear HX4 HK4 K24 K34 hc0 hc1
            refine start_ (n := 11) (S := (fun w' => w'.cell? ⟨g, 0, none⟩ = some (.string s) ∧ w'.cell? ⟨g, 1, none⟩ = some (.int .i64 (i : Int)))) (ds := []) #[false, false, false, false, false, false, false, false, false, false, false] (by kernel_rfl) rfl rfl ⟨HX5.out.s, HX5.out.i⟩ (fun hHeld => ?_)
            refine with_tabW lexer_word.tab4 lexer_word.bits4 (fun HT_ HW_ => ?_)
            generalize (w4.drewN nq).drew = w5 at HX5 HK5 K25 K35 hHeld ⊢
            refine pure_ (i := 0) (N := (some 21)) (v := ?_) (a' := ?_) #[true, false, false, false, false, false, false, false, false, false, false] rfl rfl (any_of HT_.out (by kernel_rfl)) (fun _ _ _ h => h) (Or.inl ⟨by rfl, ?_⟩) ?_ ?_
            rotate_left
            ·intro w'
             go_simp
             with_reducible rfl
            rotate_left
            ·simp only [Act.put, List.setIfInBounds_toArray, List.set_cons_zero, List.set_cons_succ, i64_w, i32_w]
             rfl
            refine pure_ (i := 1) (N := (some 22)) (v := ?_) (a' := ?_) #[true, true, false, false, false, false, false, false, false, false, false] rfl rfl (any_of HT_.out (by kernel_rfl)) (fun _ _ _ h => h) (Or.inl ⟨by rfl, ?_⟩) ?_ ?_
            rotate_left
            ·intro w'
             go_simp
             with_reducible rfl
            rotate_left
            ·simp only [Act.put, List.setIfInBounds_toArray, List.set_cons_zero, List.set_cons_succ, i64_w, i32_w]
             rfl
            refine pure_ (i := 2) (N := (some 23)) (v := ?_) (a' := ?_) #[true, true, true, false, false, false, false, false, false, false, false] rfl rfl (any_of HT_.out (by kernel_rfl)) (fun _ _ _ h => h) (Or.inl ⟨by rfl, ?_⟩) ?_ ?_
            rotate_left
            ·intro w'
             go_simp
             with_reducible rfl
            rotate_left
            ·simp only [Act.put, List.setIfInBounds_toArray, List.set_cons_zero, List.set_cons_succ, i64_w, i32_w]
             rfl
            refine take_ (i := 3) (N := (some 24)) (v := ?_) (a' := ?_) #[true, true, true, true, false, false, false, false, false, false, false] rfl rfl (take_ofW HT_.out HW_.out (by kernel_rfl)) (fun _ _ _ h => h) (Or.inl ⟨by rfl, ?_⟩) hHeld ?_ ?_
            rotate_left
            ·rintro w' ⟨s0, s1⟩
             go_simp
             with_reducible rfl
            rotate_left
            ·simp only [Act.put, List.setIfInBounds_toArray, List.set_cons_zero, List.set_cons_succ, i64_w, i32_w]
             rfl
            refine pure_ (i := 4) (N := (some 25)) (v := ?_) (a' := ?_) #[true, true, true, true, true, false, false, false, false, false, false] rfl rfl (any_of HT_.out (by kernel_rfl)) (fun _ _ _ h => h) (Or.inl ⟨by rfl, ?_⟩) ?_ ?_
            rotate_left
            ·intro w'
             go_simp
             with_reducible rfl
            rotate_left
            ·simp only [Act.put, List.setIfInBounds_toArray, List.set_cons_zero, List.set_cons_succ, i64_w, i32_w]
             rfl
            refine pure_ (i := 5) (N := (some 26)) (v := ?_) (a' := ?_) #[true, true, true, true, true, true, false, false, false, false, false] rfl rfl (any_of HT_.out (by kernel_rfl)) (fun _ _ _ h => h) (Or.inl ⟨by rfl, ?_⟩) ?_ ?_
            rotate_left
            ·intro w'
             go_simp
             with_reducible rfl
            rotate_left
            ·simp only [Act.put, List.setIfInBounds_toArray, List.set_cons_zero, List.set_cons_succ, i64_w, i32_w]
             rfl
            refine pure_ (i := 6) (N := (some 27)) (v := ?_) (a' := ?_) #[true, true, true, true, true, true, true, false, false, false, false] rfl rfl (any_of HT_.out (by kernel_rfl)) (fun _ _ _ h => h) (Or.inl ⟨by rfl, ?_⟩) ?_ ?_
            rotate_left
            ·intro w'
             go_simp
             with_reducible rfl
            rotate_left
            ·simp only [Act.put, List.setIfInBounds_toArray, List.set_cons_zero, List.set_cons_succ, i64_w, i32_w]
             rfl
            refine take_ (i := 7) (N := (some 28)) (v := ?_) (a' := ?_) #[true, true, true, true, true, true, true, true, false, false, false] rfl rfl (take_ofW HT_.out HW_.out (by kernel_rfl)) (fun _ _ _ h => h) (Or.inl ⟨by rfl, ?_⟩) hHeld ?_ ?_
            rotate_left
            ·rintro w' ⟨s0, s1⟩
             go_simp
             with_reducible rfl
            rotate_left
            ·simp only [Act.put, List.setIfInBounds_toArray, List.set_cons_zero, List.set_cons_succ, i64_w, i32_w]
             rfl
            refine pure_ (i := 8) (N := (some 29)) (v := ?_) (a' := ?_) #[true, true, true, true, true, true, true, true, true, false, false] rfl rfl (any_of HT_.out (by kernel_rfl)) (fun _ _ _ h => h) (Or.inl ⟨by rfl, ?_⟩) ?_ ?_
            rotate_left
            ·intro w'
             go_simp
             with_reducible rfl
            rotate_left
            ·simp only [Act.put, List.setIfInBounds_toArray, List.set_cons_zero, List.set_cons_succ, i64_w, i32_w]
             rfl
            refine one_ (i := 9) (N := (some 30)) #[true, true, true, true, true, true, true, true, true, true, false] rfl rfl (one_of HT_.out (by kernel_rfl)) (by decide) (fun K hK => ?_)
            refine goes_ Try.func42 (by kernel_rfl) rfl #[.string (s.extract i s.size)] (by rfl) rfl rfl goa_ ?_
            refine (number_Scan.calls _ n _ A1.out).mono ?_
            rintro e w6 ⟨rfl, hb⟩
            refine ⟨_, rfl, ?_⟩
            have HX := Aside0.mk (HX5.out.below hb)
            have HK := Aside0.mk (HK5.out.call hb)
            have K2 := Aside0.mk (K25.out.call hb)
            have K3 := Aside0.mk (K35.out.call hb)
            clear hb HX5 HK5 K25 K35
            refine hK.out _ _ ⟨HX.out.s, HX.out.i⟩ (fun hHeld => ?_)
            clear hK K
            refine norm_ (a' := ?_) ?_ ?_
            rotate_left
            ·show Act.put _ (some 30) _ = _
             simp only [Act.put, List.setIfInBounds_toArray, List.set_cons_zero, List.set_cons_succ, i64_w, i32_w]
             rfl
            refine pure_ (i := 10) (N := (some 6)) (v := ?_) (a' := ?_) #[true, true, true, true, true, true, true, true, true, true, true] rfl rfl (any_of HT_.out (by kernel_rfl)) (fun _ _ _ h => h) (Or.inl ⟨by rfl, ?_⟩) ?_ ?_
            rotate_left
            ·intro w'
             go_simp
             with_reducible rfl
            rotate_left
            ·simp only [Act.put, List.setIfInBounds_toArray, List.set_cons_zero, List.set_cons_succ, i64_w, i32_w]
             rfl
            refine done_ (done_of HT_.out (by kernel_rfl)) ?_
            clear hHeld HT_ HW_
            have hc0 := HX.out.s
            have hc1 := HX.out.i
            have hz1 := HX.out.fz
            have ht0 := K3.out.c0
            have ht1 := K3.out.c1
            have ht2 := K3.out.c2
            have ht3 := K3.out.c3
            have hf0 := K3.out.fz 0
            have hf1 := K3.out.fz 1
            have hf2 := K3.out.fz 2
            have hf3 := K3.out.fz 3
            have hne := N2.out
            have hne2 := N2.out.symm
            have hne3 := N1.out
            have hne4 := N1.out.symm
            have hne5 := N3.out
            have hne6 := N3.out.symm
            go_wp2_with (first | (go_at_call 45; with_reducible refine (begins_calls k s g i HS.out HII.out _ _ ?lx A2.out).mono ?_; (case lx => exact (by repeat (first | (with_reducible first | exact HX.out | apply Lx.drewN | apply Lx.drew | apply Lx.set | apply lx_far N2.out)))); rintro e wb ⟨rfl, hb⟩; have HXn := Aside0.mk (Lx.below (by repeat (first | (with_reducible first | exact HX.out | apply Lx.drewN | apply Lx.drew | apply Lx.set | apply lx_far N2.out))) hb); have HKn := Aside0.mk (Lk.call (by repeat (first | (with_reducible first | exact HK.out | apply Lk.drewN | apply Lk.drew | apply Lk.set | apply lk_setN HB3.out))) hb); have K2n := Aside0.mk (Tk.call (by repeat (first | (with_reducible first | exact K2.out | apply Tk.drewN | apply Tk.drew | apply tk_far N1.out.symm | apply tk_far N3.out))) hb); have K3n := Aside0.mk (Tk.call (by repeat (first | (with_reducible first | exact K3.out | apply Tk.drewN | apply Tk.drew | apply tk_far N2.out.symm))) hb); clear hb; clear HX HK K2 K3; have HX := HXn; have HK := HKn; have K2 := K2n; have K3 := K3n; clear HXn HKn K2n K3n; have hc0 := HX.out.s; have hc1 := HX.out.i; have hz1 := HX.out.fz; have ht0 := K3.out.c0; have ht1 := K3.out.c1; have ht2 := K3.out.c2; have ht3 := K3.out.c3; have hf0 := K3.out.fz 0; have hf1 := K3.out.fz 1; have hf2 := K3.out.fz 2; have hf3 := K3.out.fz 3; have hr0 := K2.out.c0; have hr1 := K2.out.c1; have hr2 := K2.out.c2; have hr3 := K2.out.c3; have hs0 := K2.out.fz 0; have hs1 := K2.out.fz 1; have hs2 := K2.out.fz 2; have hs3 := K2.out.fz 3) | (go_at_call 46; with_reducible refine (ident_calls k s g i _ _ HS.out HII.out _ ?lx A4.out).mono ?_; (case lx => exact (by repeat (first | (with_reducible first | exact HX.out | apply Lx.drewN | apply Lx.drew | apply Lx.set | apply lx_far N2.out)))); rintro e wd ⟨rfl, hx, hk⟩; rw [HTX.out]; have HXn := Aside0.mk hx; have HKn := Aside0.mk (Lk.trans (by repeat (first | (with_reducible first | exact HK.out | apply Lk.drewN | apply Lk.drew | apply Lk.set | apply lk_setN HB3.out))) hk); have K2n := Aside0.mk (Tk.lk (by repeat (first | (with_reducible first | exact K2.out | apply Tk.drewN | apply Tk.drew | apply tk_far N1.out.symm | apply tk_far N3.out))) hk N1.out.symm); have K3n := Aside0.mk (Tk.lk (by repeat (first | (with_reducible first | exact K3.out | apply Tk.drewN | apply Tk.drew | apply tk_far N2.out.symm))) hk N2.out.symm); clear hx hk; clear HX HK K2 K3; have HX := HXn; have HK := HKn; have K2 := K2n; have K3 := K3n; clear HXn HKn K2n K3n; have hc0 := HX.out.s; have hc1 := HX.out.i; have hz1 := HX.out.fz; have ht0 := K3.out.c0; have ht1 := K3.out.c1; have ht2 := K3.out.c2; have ht3 := K3.out.c3; have hf0 := K3.out.fz 0; have hf1 := K3.out.fz 1; have hf2 := K3.out.fz 2; have hf3 := K3.out.fz 3; have hr0 := K2.out.c0; have hr1 := K2.out.c1; have hr2 := K2.out.c2; have hr3 := K2.out.c3; have hs0 := K2.out.fz 0; have hs1 := K2.out.fz 1; have hs2 := K2.out.fz 2; have hs3 := K2.out.fz 3) | (go_at_call 43; with_reducible refine (is_paren0 s g e e HS.out HWE.out _ _ ?lx A5.out).mono ?_; (case lx => exact (by repeat (first | (with_reducible first | exact HX.out | apply Lx.drewN | apply Lx.drew | apply Lx.set | apply lx_far N2.out)))); rintro e wi ⟨rfl, ⟨ni, rfl⟩⟩))
            refine bodyPost_ret (results_cell_row rfl _ _ b2 33 #[.int .i64 2, .int .i64 (i : Int), .string x, .string (⟨#[]⟩ : ByteArray)] (0, 0) _ rfl (show _ from Tk.set3 (Tk.set2 (Tk.set1 (Tk.set0 (by repeat (first | (with_reducible first | exact K2.out | apply Tk.drewN | apply Tk.drew | apply tk_far N1.out.symm | apply tk_far N3.out))) _) _) _) _) huT rfl (by kernel_rfl)) rfl ?_
            exact ⟨rfl, Lx.far (Lx.far (Lx.far (Lx.far (Lx.setv (by repeat (first | (with_reducible first | exact HX.out | apply Lx.drewN | apply Lx.drew | apply Lx.set | apply lx_far N2.out))) (by omega)) N1.out _ _) N1.out _ _) N1.out _ _) N1.out _ _, Lk.setN (Lk.setN (Lk.setN (Lk.setN (by repeat (first | (with_reducible first | exact HK.out | apply Lk.drewN | apply Lk.drew | apply Lk.set | apply lk_setN HB3.out))) HS2.out _ _) HS2.out _ _) HS2.out _ _) HS2.out _ _⟩
        · rw [if_neg h3] at hf
          cases hf
  · rw [if_neg hlt] at hf
    cases hf
end Go.Proofs.Ytfccpnpocfjbcaa.Giv
