/- LineReadsSaid, part 8 of 13: contracts of the program's functions, the words that they use, and the plain laws on what they compute. Conditions: none beyond what the statements say. -/
import Derived.Test.YtofdhdafabmhmaaKLr0
import Derived.Test.YtofdhdafabmhmaaKLr1
import Derived.Test.YtofdhdafabmhmaaKLr4
import Derived.Test.YtofdhdafabmhmaaKLr5
import Derived.BigRegion
import Derived.BigQuiet
import Derived.Deep.QuietTactic
import Derived.Test.YtofdhdafabmhmaaKLr6
import Derived.Test.YtofdhdafabmhmaaKLr2
import Derived.Tactics
import Derived.Tactics2
import Derived.Defers
import Derived.Recover
set_option linter.unusedVariables false
set_option linter.unusedSimpArgs false
section
namespace Go.Proofs.Ytofdhdafabmhmaa.Giv
open Go.RowKit Go.Proofs.YtofdhdafabmhmaaW.PrintWords Go.Proofs.YtofdhdafabmhmaaW.PrintLast Go.Proofs.YtofdhdafabmhmaaW.PrintMore Go.Proofs.Ytofdhdafabmhmaa.PLr
open Go.Proofs.Ytofdhdafabmhmaa.Opn Go.BigFrame
/-- The words of bytes, from a place on. -/
def token_Tokens.l0 : Nat → ByteArray → Nat → List S43 → Option (List S43)
  | 0, _, _, _ => none
  | k + 1, s, i, out => if i < s.size then (if out.length < 65536 then ((wordF k s i).bind fun t => if t.2.2.2 ≤ s.size then ((skipF k s t.2.2.2).bind fun j => if j ≤ s.size then token_Tokens.l0 k s j (out ++ [⟨t.1, (i : Int), t.2.1, t.2.2.1⟩]) else none) else none) else none) else some (out ++ [⟨8, (s.size : Int), ⟨#[]⟩, ⟨#[]⟩⟩])
def token_Tokens.f (k : Nat) (l0 : List Int) : Option (List S43 × Int × Int) := if l0.length ≤ 262144 then ((skipF k (strOfNums l0) 0).bind fun i => if i ≤ (strOfNums l0).size then ((token_Tokens.l0 k (strOfNums l0) i []).bind fun r => some (r, 0, 0)) else none) else none
theorem token_Tokens.mono_l : ∀ k, (∀ s i out, LeO (token_Tokens.l0 k s i out) (token_Tokens.l0 (k + 1) s i out))
  | 0 => fun _ _ _ r h => by simp [token_Tokens.l0] at h
  | k + 1 => by
    have ih0 := token_Tokens.mono_l k; intro s i out; unfold token_Tokens.l0; refine LeO.ite (LeO.ite (LeO.bind (wordF.mono _ _ _) (fun t => LeO.ite (LeO.bind (skipF.mono _ _ _) (fun j => LeO.ite (ih0 _ _ _) (LeO.none _))) (LeO.none _))) (LeO.none _)) (LeO.refl _)
theorem token_Tokens.mono : ∀ l0 k, LeO (token_Tokens.f k l0) (token_Tokens.f (k + 1) l0) := by
  intro l0 k; unfold token_Tokens.f; refine LeO.ite (LeO.bind (skipF.mono _ _ _) (fun i => LeO.ite (LeO.bind (token_Tokens.mono_l _ _ _ _) (fun _ => LeO.refl _)) (LeO.none _))) (LeO.none _)
/-- The blocks of Tokens: its three results' variables, and the lexer. -/
structure Toks (w w1 : World) (bo ba be g : Nat) (s : ByteArray) (i : Nat) (out : List S43) (v : Value) : Prop where
  o : w1.heap[bo]? = some (.cells #[v] 22 (0, 0))
  a : w1.heap[ba]? = some (.cells #[.int .i64 0] 3 (0, 0))
  e : w1.heap[be]? = some (.cells #[.int .i64 0] 27 (0, 0))
  x : Lx w1 g s i
  r : Kd.R k43 43 w1 w.heap.size (fun k => k ≠ bo ∧ k ≠ ba ∧ k ≠ be ∧ k ≠ g) v out
  b : Below w.heap.size w w1
structure Apart4 (w : World) (bo ba be g : Nat) : Prop where
  l0 : w.heap.size ≤ bo
  l1 : bo < ba
  l2 : ba < be
  l3 : be < g
section
variable {w w1 w2 : World} {bo ba be g i : Nat} {s : ByteArray} {out : List S43} {v : Value}
theorem Toks.below (h : Toks w w1 bo ba be g s i out v) (hb : Below w1.heap.size w1 w2) : Toks w w2 bo ba be g s i out v :=
  ⟨blk_below h.o hb, blk_below h.a hb, blk_below h.e hb, h.x.below hb, Kd.R_below h.r hb, below_step h.b hb⟩
theorem Toks.lk (h : Toks w w1 bo ba be g s i out v) (hp : Apart4 w bo ba be g) {j : Nat} (hk : Lk g w1 w2) (hx : Lx w2 g s j) : Toks w w2 bo ba be g s j out v :=
  ⟨hk.at h.o (by have := hp.l1; have := hp.l2; have := hp.l3; omega), hk.at h.a (by have := hp.l2; have := hp.l3; omega), hk.at h.e (by have := hp.l3; omega), hx,
    Kd.R_step h.r (fun k hok hlt => hk.heap k hlt hok.2.2.2), Lk.below h.b hk (by have := hp.l0; have := hp.l1; have := hp.l2; have := hp.l3; omega) (below_size h.b)⟩
theorem Toks.drewN (h : Toks w w1 bo ba be g s i out v) (n : Nat) : Toks w (w1.drewN n) bo ba be g s i out v := h.below ⟨rfl, rfl, rfl, Nat.le_refl _, fun _ _ => rfl⟩
theorem Toks.drew (h : Toks w w1 bo ba be g s i out v) : Toks w w1.drew bo ba be g s i out v := h.below ⟨rfl, rfl, rfl, Nat.le_refl _, fun _ _ => rfl⟩
/-- A cell of a block that is neither of these, nor the row's. -/
theorem Toks.far (h : Toks w w1 bo ba be g s i out v) {b : Nat} (h0 : w.heap.size ≤ b) (h1 : bo ≠ b) (h2 : ba ≠ b) (h3 : be ≠ b) (h4 : g ≠ b) (h5 : v.ownBlock ≠ some b) (o : Nat) (u : Value) : Toks w (w1.setCell ⟨b, o, none⟩ u) bo ba be g s i out v :=
  ⟨blk_far h.o h1 _, blk_far h.a h2 _, blk_far h.e h3 _, h.x.far h4 _ _, Kd.R_mono (Kd.R_far (Kd.R_reok rfl h.r (ok := fun k => (k ≠ bo ∧ k ≠ ba ∧ k ≠ be ∧ k ≠ g) ∧ k ≠ b) (fun k hk => ⟨h.r.1 k hk, fun e => h5 (by rw [hk, e])⟩)) (fun k hk => hk.2) _) (fun _ hk => hk.1), below_set h.b h0⟩
theorem Toks.set (h : Toks w w1 bo ba be g s i out v) (hp : Apart4 w bo ba be g) {out' : List S43} {v' : Value} (hg : w1.grownBy w2 v.ownBlock) (hr : Kd.R k43 43 w2 w.heap.size (fun k => k ≠ bo ∧ k ≠ ba ∧ k ≠ be ∧ k ≠ g) v' out') (hb : Below w.heap.size w w2) :
    Toks w (w2.setCell ⟨bo, 0, none⟩ v') bo ba be g s i out' v' := by
  have n0 : some bo ≠ v.ownBlock := fun e => (h.r.1 bo e.symm).1 rfl
  have n1 : some ba ≠ v.ownBlock := fun e => (h.r.1 ba e.symm).2.1 rfl
  have n2 : some be ≠ v.ownBlock := fun e => (h.r.1 be e.symm).2.2.1 rfl
  have n3 : some g ≠ v.ownBlock := fun e => (h.r.1 g e.symm).2.2.2 rfl
  have hp1 := hp.l1; have hp2 := hp.l2; have hp3 := hp.l3; refine ⟨blk_set (blk_grown h.o hg n0) 0 _, blk_far (blk_grown h.a hg n1) (by exact (by omega : ba ≠ bo)) _, blk_far (blk_grown h.e hg n2) (by exact (by omega : be ≠ bo)) _, ?_, Kd.R_far hr (fun k hk => hk.1) _, below_set hb hp.l0⟩
  have hx : Lx w2 g s i := blk_grown h.x hg n3; exact hx.far (by omega : g ≠ bo) _ _
theorem Toks.fin (h : Toks w w1 bo ba be g s i out v) (hp : Apart4 w bo ba be g) :
    let W := ((w1.setCell ⟨ba, 0, none⟩ (.int .i64 0)).setCell ⟨be, 0, none⟩ (.int .i64 0))
    W.cell? ⟨bo, 0, none⟩ = some v ∧ W.cell? ⟨ba, 0, none⟩ = some (.int .i64 0) ∧ W.cell? ⟨be, 0, none⟩ = some (.int .i64 0) ∧ Kd.R k43 43 W w.heap.size (fun _ => True) v out ∧ Below w.heap.size w W := by
  have hp0 := hp.l0; have hp1 := hp.l1; have hp2 := hp.l2; have h0 := blk_far (blk_far h.o (show bo ≠ ba by omega) (p := ⟨ba, 0, none⟩) (.int .i64 0)) (show bo ≠ be by omega) (p := ⟨be, 0, none⟩) (.int .i64 0); have h1 := blk_far (blk_set h.a 0 (.int .i64 0)) (show ba ≠ be by omega) (p := ⟨be, 0, none⟩) (.int .i64 0); have h2 := blk_set (blk_far h.e (show be ≠ ba by omega) (p := ⟨ba, 0, none⟩) (.int .i64 0)) 0 (.int .i64 0); exact ⟨(blk_cell h0 0).trans rfl, (blk_cell h1 0).trans rfl, (blk_cell h2 0).trans rfl, Kd.R_mono (Kd.R_far (Kd.R_far h.r (fun k hk => hk.2.1) _) (fun k hk => hk.2.2.1) _) (fun _ _ => trivial), below_set (below_set h.b (by omega)) (by omega)⟩
end
/-- What comes of a region that ends as it should. -/
def QN (Q : Exit → Act → World → Prop) : Exit → Act → World → Prop
  | .normal, a, w => Q .normal a w
  | _, _, _ => False
theorem QN.to {Q : Exit → Act → World → Prop} : ∀ e a w, QN Q e a w → Q e a w := by
  intro e a w h; cases e <;> first | exact h | exact h.elim
theorem infoT : (Try.prog.info? 43).map (fun i => (i.zero, i.size, i.bytes)) = some (some (.agg #[.int .i64 0, .int .i64 0, .string ⟨#[]⟩, .string ⟨#[]⟩]), 4, 48) := by kernel_rfl
theorem tokens_idle (bo ba be : Nat) (w : World) :
    CallsD Try.prog 39 #[.pointer (some ⟨bo, 0, none⟩), .pointer (some ⟨ba, 0, none⟩), .pointer (some ⟨be, 0, none⟩)] .returning w fun e u' w' => e = .returned (.tuple #[]) ∧ u' = .returning ∧ w' = w := by
  refine callsD_of_wpS Try.func39 rfl fun c₀ cs hu => ?_
  apply wpS_seq
  apply wpS_region
  simp [wpOpsS, go_sem, recoverD, hu, Try.ntmps39, Exit.thenS]
  apply wpS_seq
  apply wpS_region
  simp [wpOpsS, go_sem, recoverD, Try.ntmps39, Exit.thenS]
  refine wpS_cond (t := false) (by simp [Act.eval, Array.replicate]) ?_
  simp only [Bool.false_eq_true, if_false]; refine wpS_of_wp (wp_skip ?_)
  cases c₀
  simp_all [bodyPostS, results, Try.results39]
def token_Tokens.T13 : Bool × List (List Nat × List Nat) := (true, [([], []), ([], []), ([1], [1]), ([2], [2]), ([3], [3]), ([4], [4]), ([5], [5]), ([6], [6]), ([0, 7], [0, 7]), ([8, 8, 0, 1, 2, 3, 4, 5, 6, 7, 8], [8]), ([9, 0, 1, 2, 3, 4, 5, 6, 7, 8, 9], []), ([10, 0, 1, 2, 3, 4, 5, 6, 7, 8, 9, 10], [])])
def token_Tokens.B13 : List Nat := [0, 0, 2, 6, 14, 30, 62, 126, 255, 511, 1023, 2047]
theorem token_Tokens.tab13 : rtab .any (opsOf Try.f27 13) = token_Tokens.T13 := by kernel_rfl
theorem token_Tokens.bits13 : waitsOk token_Tokens.T13.2 token_Tokens.B13 = true := by kernel_rfl
set_option maxHeartbeats 16000000 in
set_option maxRecDepth 100000 in
theorem token_Tokens.calls (k : Nat) (A0 : Option Addr) (c0 : Nat) (l0 : List Int) (r0 : List S43) (r1 r2 : Int) (w : World) (hr0 : Kd.C (Kd.int .u8) w A0 l0.length l0) (hc0 : l0.length ≤ c0) (h : token_Tokens.f k l0 = some (r0, r1, r2)) :
    Calls Try.prog 27 #[.slice A0 l0.length c0] w fun e w' => ∃ v0_ : Value, e = .returned (.tuple #[v0_, .int .i64 r1, .int .i64 r2]) ∧ Kd.R k43 43 w' w.heap.size (fun _ => True) v0_ r0 ∧ Below w.heap.size w w' := by
  have hmf : ∀ (fn : Fn) (first cap : Array Value) (w : World), (Instr.makeFunc fn first cap).run Try.prog w = .ok (.func fn first cap) w := fun _ _ _ _ => rfl
  have hu := Try.underlying77; have hut := Try.underlying9; have huT := Try.underlying43; have HR := am_ hr0; clear hr0; unfold token_Tokens.f at h; by_cases hl : l0.length ≤ 262144
  · rw [if_pos hl] at h
    obtain ⟨i0, hsk, h⟩ := bs_ h; have hsz : (strOfNums l0).size = l0.length := by
      show ((l0.map fun n => UInt8.ofNat n.toNat).toArray).size = l0.length
      rw [List.size_toArray, List.length_map]
    obtain ⟨s, hs⟩ : ∃ s, strOfNums l0 = s := ⟨_, rfl⟩
    rw [hs] at h hsk hsz; have ES := am_ hs; by_cases hi0 : i0 ≤ s.size
    · rw [if_pos hi0] at h
      obtain ⟨r, hlp, h⟩ := bs_ h; obtain ⟨rfl, rfl, rfl⟩ : r = r0 ∧ 0 = r1 ∧ 0 = r2 := by
        have h := si_ h; simp only [Prod.mk.injEq] at h; exact h
      clear h; have HS := am_ (show s.size ≤ 140737488351232 by omega); have HSZ := am_ (show s.size ≤ 262144 by omega); have HSK := am_ hsk; have HLP := am_ hlp; have HI0 := am_ hi0; have H00 := am_ (Nat.zero_le s.size); have p1 : decide ((l0.length : Int) > 262144) = false := df_ (by omega); have p2 : decide (262144 < (l0.length : Int)) = false := df_ (by omega); clear hsk hlp hi0 hs hsz hl; go_enter_defers Try.func27, Try.ntmps27
      go_wp2_with (first | ((with_reducible refine gate_dst (N := 2) rfl ?_); (try (refine gate_guard (by rfl) ?_; dsimp only)); refine box_event ?hg (N := 2) ?hd (cs := #[.slice none 0 0]) (t := 22) ?hr ?_; (case hd => rfl); (case hg => rfl); (case hr => first | (go_simp; done) | (go_simp; rfl)); intro bo hg w1 hbox hb; have G0 := am_ hg; have B0 := am_ hbox; have BL := am_ hb; clear hg hbox hb) | ((with_reducible refine gate_dst (N := 3) rfl ?_); (try (refine gate_guard (by rfl) ?_; dsimp only)); refine box_event ?hg (N := 3) ?hd (cs := #[.int .i64 0]) (t := 3) ?hr ?_; (case hd => rfl); (case hg => rfl); (case hr => first | (go_simp; done) | (go_simp; rfl)); intro ba hg w2 hbox hb; have G1 := am_ hg; have B1 := am_ hbox; have L0 := am_ (blk_lt B0.out); have n0 := am_ (blk_below B0.out hb); have n1 := am_ (below_step BL.out hb); clear hg hbox hb B0 BL; have B0 := n0; have BL := n1; clear n0 n1) | ((with_reducible refine gate_dst (N := 4) rfl ?_); (try (refine gate_guard (by rfl) ?_; dsimp only)); refine box_event ?hg (N := 4) ?hd (cs := #[.int .i64 0]) (t := 27) ?hr ?_; (case hd => rfl); (case hg => rfl); (case hr => first | (go_simp; done) | (go_simp; rfl)); intro be hg w3 hbox hb; have G2 := am_ hg; have B2 := am_ hbox; have L1 := am_ (blk_lt B1.out); have n0 := am_ (blk_below B0.out hb); have n2 := am_ (blk_below B1.out hb); have n1 := am_ (below_step BL.out hb); clear hg hbox hb B0 BL B1; have B0 := n0; have BL := n1; have B1 := n2; clear n0 n1 n2; have hst := fun c => Kd.C_string (P := Try.prog) (c := c) Try.underlying65 Try.underlying5 Try.underlying9 (Kd.C_below HR.out BL.out); rw [ES.out] at hst) | ((with_reducible refine gate_dst (N := 15) rfl ?_); (try (refine gate_guard (by rfl) ?_; dsimp only)); refine box_event ?hg (N := 15) ?hd (cs := #[.string s, .int .i64 0]) (t := 77) ?hr ?_; (case hd => rfl); (case hg => rfl); (case hr => first | (go_simp; done) | (go_simp; rfl)); intro g hg w4 hbox hb; have G3 := am_ hg; have B3 := am_ hbox; have L2 := am_ (blk_lt B2.out); have HT : Aside0 (Toks w w4 bo ba be g s 0 [] (.slice none 0 0)) := ⟨⟨blk_below B0.out hb, blk_below B1.out hb, blk_below B2.out hb, B3.out, Kd.R_nil _ _ _ _ _, below_step BL.out hb⟩⟩; have HP : Aside0 (Apart4 w bo ba be g) := ⟨⟨by rw [G0.out]; exact Nat.le_refl _, by rw [G1.out]; exact L0.out, by rw [G2.out]; exact L1.out, by rw [G3.out]; exact L2.out⟩⟩; clear hg hbox hb B0 B1 B2 B3 BL hst; have hc0 := HT.out.x.s; have hc1 := HT.out.x.i; have hd0 := (blk_cell HT.out.o 0).trans rfl; have hz0 := blk_frozen HT.out.o 0) | (go_at_call 40; with_reducible refine (skip_calls k s g 0 i0 HS.out H00.out _ ?lx HSK.out).mono ?_; (case lx => exact (by repeat (first | (with_reducible first | exact HT.out.x | apply Lx.drewN | apply Lx.drew)))); rintro e wk ⟨rfl, hx, hk⟩; have HT2 := am_ (Toks.lk (by repeat (first | (with_reducible first | exact HT.out | apply Toks.drewN | apply Toks.drew))) HP.out hk hx); clear hx hk HT; have HT := HT2; clear HT2; have hc0 := HT.out.x.s; have hc1 := HT.out.x.i; have hd0 := (blk_cell HT.out.o 0).trans rfl; have hz0 := blk_frozen HT.out.o 0))
      go_loopg [] k (fun kq wr => ∃ (i : Nat) (out : List S43) (v : Value), Aside0 (out.length ≤ 65536) ∧ Aside0 (i ≤ s.size) ∧ Aside0 (token_Tokens.l0 kq s i out = some r) ∧ Aside0 (Toks w wr bo ba be g s i out v))
      case atStart => exact ⟨i0, [], _, ⟨Nat.zero_le _⟩, HI0, HLP, ⟨by repeat (first | (with_reducible first | exact HT.out | apply Toks.drewN | apply Toks.drew))⟩⟩
      case round =>
        clear HLP HI0 HSK HT hc0 hc1 hd0 hz0; obtain ⟨i, out, v, HOL, HI, HF, HT⟩ := hrel; obtain ⟨A1, cc1, rfl⟩ := Kd.R_slice HT.out.r; have hc0 := HT.out.x.s; have hc1 := HT.out.x.i; have hd0 := (blk_cell HT.out.o 0).trans rfl; have hz0 := blk_frozen HT.out.o 0
        cases gk with
        | zero => exact absurd HF.out (by simp [token_Tokens.l0])
        | succ k2 =>
          have hf := HF.out; have hs := HS.out; clear HF; unfold token_Tokens.l0 at hf; by_cases hlt : i < s.size
          · rw [if_pos hlt] at hf
            by_cases hol : out.length < 65536
            · rw [if_pos hol] at hf
              obtain ⟨⟨kd, tx, nm, j⟩, hw, hf⟩ := bs_ hf; have HW := am_ hw; clear hw; try dsimp only at hf
              by_cases hj : j ≤ s.size
              · rw [if_pos hj] at hf
                obtain ⟨j2, hsk, hf⟩ := bs_ hf; have HSK := am_ hsk; clear hsk; by_cases hj2 : j2 ≤ s.size
                · rw [if_pos hj2] at hf
                  have HF := am_ hf; have HJ := am_ hj; have HJ2 := am_ hj2; have HLIM := am_ hol; have q1 : (((i : Nat) : Int) < (s.size : Int)) = True := eq_true (by omega); have q2 : decide (((i : Nat) : Int) < (s.size : Int)) = true := dt_ (by omega); have q3 : decide (i < s.size) = true := dt_ hlt; have p3 : decide ((out.length : Int) ≥ 65536) = false := df_ (by omega); have p4 : decide (65536 ≤ (out.length : Int)) = false := df_ (by omega); clear hf hj hj2 hol hlt hs; go_wp2; refine wp_region_quiet_lit (by kernel_rfl) (by kernel_rfl) ?_
                  repeat (go_big_quiet_step (fail))
                  refine wpQuiet_nil ?_
                  intro _ hw'; obtain ⟨nq, hw''⟩ := hw'; subst hw''; go_upto_region 12 with (first | (go_at_call 41; with_reducible refine (word_calls k2 s g i j kd tx nm HS.out _ ?lx HW.out).mono ?_; (case lx => exact (by repeat (first | (with_reducible first | exact HT.out.x | apply Lx.drewN | apply Lx.drew)))); rintro e wd ⟨rfl, hx, hk⟩; have HT2 := am_ (Toks.lk (by repeat (first | (with_reducible first | exact HT.out | apply Toks.drewN | apply Toks.drew))) HP.out hk hx); clear hx hk HT hc0 hc1 hd0 hz0; have HT := HT2; clear HT2; have hc0 := HT.out.x.s; have hc1 := HT.out.x.i; have hd0 := (blk_cell HT.out.o 0).trans rfl; have hz0 := blk_frozen HT.out.o 0) | ((with_reducible refine gate_dst (N := 7) rfl ?_); (try (refine gate_guard (by rfl) ?_; dsimp only)); refine box_event ?hg (N := 7) ?hd (cs := #[.int .i64 0, .int .i64 0, .string (⟨#[]⟩ : ByteArray), .string (⟨#[]⟩ : ByteArray)]) (t := 43) ?hr ?_; (case hd => rfl); (case hg => rfl); (case hr => first | (go_simp; done) | (go_simp; rfl)); intro bt hg w7 hbox hb; have G7 := am_ hg; have K7 := am_ (show Tk w7 bt 0 0 ⟨#[]⟩ ⟨#[]⟩ from hbox); have LT0 := am_ (show bo < bt by rw [hg]; exact blk_lt HT.out.o); have LT1 := am_ (show ba < bt by rw [hg]; exact blk_lt HT.out.a); have LT2 := am_ (show be < bt by rw [hg]; exact blk_lt HT.out.e); have LT3 := am_ (show g < bt by rw [hg]; exact blk_lt HT.out.x); have LT4 := am_ (show (Value.slice A1 out.length cc1).ownBlock ≠ some bt from fun e => by have h1 := Kd.R_lt HT.out.r _ e; rw [hg] at h1; exact Nat.lt_irrefl _ h1); have LT5 := am_ (show w.heap.size ≤ bt by rw [hg]; exact below_size HT.out.b); have HT2 := am_ (Toks.below HT.out hb); clear hg hbox hb HT hc0 hc1 hd0 hz0; have HT := HT2; clear HT2; have he0 := LT0.out; have hne : bo ≠ bt := Nat.ne_of_lt LT0.out; have hne2 : bt ≠ bo := Nat.ne_of_gt LT0.out; have hc0 := HT.out.x.s; have hc1 := HT.out.x.i; have hd0 := (blk_cell HT.out.o 0).trans rfl; have hz0 := blk_frozen HT.out.o 0; have ht0 := K7.out.c0; have ht1 := K7.out.c1; have ht2 := K7.out.c2; have ht3 := K7.out.c3; have hf0 := K7.out.fz 0; have hf1 := K7.out.fz 1; have hf2 := K7.out.fz 2; have hf3 := K7.out.fz 3))
                  have HT8 : Aside0 (Toks w ((((w7.setCell ⟨bt, 0, none⟩ (.int .i64 kd)).setCell ⟨bt, 1, none⟩ (.int .i64 (i : Int))).setCell ⟨bt, 2, none⟩ (.string tx)).setCell ⟨bt, 3, none⟩ (.string nm)) bo ba be g s j out (.slice A1 out.length cc1)) := ⟨(Toks.far (Toks.far (Toks.far (Toks.far HT.out LT5.out (Nat.ne_of_lt LT0.out) (Nat.ne_of_lt LT1.out) (Nat.ne_of_lt LT2.out) (Nat.ne_of_lt LT3.out) LT4.out _ _) LT5.out (Nat.ne_of_lt LT0.out) (Nat.ne_of_lt LT1.out) (Nat.ne_of_lt LT2.out) (Nat.ne_of_lt LT3.out) LT4.out _ _) LT5.out (Nat.ne_of_lt LT0.out) (Nat.ne_of_lt LT1.out) (Nat.ne_of_lt LT2.out) (Nat.ne_of_lt LT3.out) LT4.out _ _) LT5.out (Nat.ne_of_lt LT0.out) (Nat.ne_of_lt LT1.out) (Nat.ne_of_lt LT2.out) (Nat.ne_of_lt LT3.out) LT4.out _ _)⟩
                  have K8 : Aside0 (Tk ((((w7.setCell ⟨bt, 0, none⟩ (.int .i64 kd)).setCell ⟨bt, 1, none⟩ (.int .i64 (i : Int))).setCell ⟨bt, 2, none⟩ (.string tx)).setCell ⟨bt, 3, none⟩ (.string nm)) bt kd (i : Int) tx nm) := ⟨Tk.set3 (Tk.set2 (Tk.set1 (Tk.set0 K7.out _) _) _) _⟩
                  clear HT K7 hc0 hc1 hd0 hz0 ht0 ht1 ht2 ht3 hf0 hf1 hf2 hf3 he0; generalize ((((w7.setCell ⟨bt, 0, none⟩ (.int .i64 kd)).setCell ⟨bt, 1, none⟩ (.int .i64 (i : Int))).setCell ⟨bt, 2, none⟩ (.string tx)).setCell ⟨bt, 3, none⟩ (.string nm)) = w8 at HT8 K8 ⊢
                  have hd0 := (blk_cell HT8.out.o 0).trans rfl; have hz0 := blk_frozen HT8.out.o 0; have ht0 := K8.out.c0; have ht1 := K8.out.c1; have ht2 := K8.out.c2; have ht3 := K8.out.c3; go_wp2_with (first | ((with_reducible refine gate_builtin (b := .append) (xs := #[.tmp 42, .tmp 44]) rfl ?_); at_builtin; refine Kd.R_append k43 (w0 := w) w.heap.size rfl (.tmp 42) (.tmp 44) 22 43 (.agg #[.int .i64 0, .int .i64 0, .string (⟨#[]⟩ : ByteArray), .string (⟨#[]⟩ : ByteArray)]) 48 rfl Try.underlying22 infoT rfl (by decide) (by omega) (.slice A1 out.length cc1) out ⟨kd, (i : Int), tx, nm⟩ [.int .i64 kd, .int .i64 (i : Int), .string tx, .string nm] (fun k => k ≠ bo ∧ k ≠ ba ∧ k ≠ be ∧ k ≠ g) (fun _ => False) rfl rfl ?aP (fun _ hk => hk.elim) ?aF ?aO ?aB ?aS ?aL ?_; (case aP => exact k43_mkM _ _ _ ⟨kd, (i : Int), tx, nm⟩); (case aB => exact HT8.out.b); (case aF => exact (fun k hk => by have := blk_lt HT8.out.o; have := blk_lt HT8.out.a; have := blk_lt HT8.out.e; have := blk_lt HT8.out.x; exact ⟨by omega, by omega, by omega, by omega⟩)); (case aO => exact HT8.out.r); (case aS => exact (below_size HT8.out.b)); (case aL => have := HLIM.out; omega); intro v1 W9 ho hb hg hat; obtain ⟨A2, cc2, rfl⟩ := Kd.R_slice ho; rw [List.length_append, List.length_singleton] at ho; have HT := am_ (Toks.set HT8.out HP.out hg ho hb); have hn0 : some bo ≠ (Value.slice A1 out.length cc1).ownBlock := fun e => (HT8.out.r.1 bo e.symm).1 rfl; have hz9 := blk_frozen (blk_grown HT8.out.o hg hn0) 0; have hy9 := (blk_cell (blk_grown HT8.out.o hg hn0) 0).trans rfl; clear ho hb hg hat hn0) | (go_at_call 40; with_reducible refine (skip_calls k2 s g j j2 HS.out HJ.out _ ?lx HSK.out).mono ?_; (case lx => exact (by repeat (first | (with_reducible first | exact HT.out.x | apply Lx.drewN | apply Lx.drew)))); rintro e wk ⟨rfl, hx, hk⟩; have HT2 := am_ (Toks.lk (by repeat (first | (with_reducible first | exact HT.out | apply Toks.drewN | apply Toks.drew))) HP.out hk hx); clear hx hk HT; have HT := HT2; clear HT2; have hc0 := HT.out.x.s; have hc1 := HT.out.x.i; have hd0 := (blk_cell HT.out.o 0).trans rfl; have hz0 := blk_frozen HT.out.o 0))
                  go_roundg k2
                  case measure => omega
                  case rel => exact ⟨j2, out ++ [⟨kd, (i : Int), tx, nm⟩], _, ⟨by rw [List.length_append, List.length_singleton]; have := HLIM.out; omega⟩, HJ2, HF, ⟨by repeat (first | (with_reducible first | exact HT.out | apply Toks.drewN | apply Toks.drew))⟩⟩
                rw [if_neg hj2] at hf; cases hf
              rw [if_neg hj] at hf; cases hf
            rw [if_neg hol] at hf; cases hf
          rw [if_neg hlt] at hf; obtain rfl := si_ hf; have HLIM := am_ (show out.length < 1000000 by have := HOL.out; omega); have q1 : (((i : Nat) : Int) < (s.size : Int)) = False := eq_false (by omega); have q2 : decide (((i : Nat) : Int) < (s.size : Int)) = false := df_ (by omega); have q3 : decide (i < s.size) = false := df_ hlt; clear hf hlt hs; go_wp2; refine wp_region_quiet_lit (by kernel_rfl) (by kernel_rfl) ?_
          repeat (go_big_quiet_step (fail))
          refine wpQuiet_nil ?_
          intro _ hw'; obtain ⟨nq, hw''⟩ := hw'; subst hw''; go_wp2; refine Code.wp_mono QN.to ?_
          have HT3 : Aside0 (Toks w (wr.drewN nq).drew bo ba be g s i out (.slice A1 out.length cc1)) := ⟨(HT.out.drewN nq).drew⟩
          refine start_ (n := 12) (S := (fun w' => w'.cell? ⟨bo, 0, none⟩ = some (.slice A1 out.length cc1) ∧ w'.cell? ⟨g, 0, none⟩ = some (.string s))) (ds := [9, 10, 11]) #[false, false, false, false, false, false, false, false, false, false, false, false] (by kernel_rfl) rfl rfl ⟨(blk_cell HT3.out.o 0).trans rfl, HT3.out.x.s⟩ (fun hHeld => ?_)
          refine with_tabW token_Tokens.tab13 token_Tokens.bits13 (fun HT_ HW_ => ?_)
          generalize (wr.drewN nq).drew = W3 at HT3 hHeld ⊢
          refine tas_ 0 (some 46) #[true, false, false, false, false, false, false, false, false, false, false, false] rfl rfl HT_.out HW_.out hHeld ?_
          refine pus_ 1 (some 47) #[true, true, false, false, false, false, false, false, false, false, false, false] rfl rfl HT_.out ?_
          refine pus_ 2 (some 48) #[true, true, true, false, false, false, false, false, false, false, false, false] rfl rfl HT_.out ?_
          refine pus_ 3 (some 49) #[true, true, true, true, false, false, false, false, false, false, false, false] rfl rfl HT_.out ?_
          refine tas_ 4 (some 50) #[true, true, true, true, true, false, false, false, false, false, false, false] rfl rfl HT_.out HW_.out hHeld ?_
          refine pus_ 5 (some 51) #[true, true, true, true, true, true, false, false, false, false, false, false] rfl rfl HT_.out ?_
          refine pus_ 6 (some 52) #[true, true, true, true, true, true, true, false, false, false, false, false] rfl rfl HT_.out ?_
          refine one_ (i := 7) (N := (some 53)) #[true, true, true, true, true, true, true, true, false, false, false, false] rfl rfl (one_of HT_.out (by kernel_rfl)) (by decide) (fun K hK => ?_)
          refine value_ (w1 := ?_) (v := ?_) (by rfl) rfl ?_ ?_
          rotate_left 2
          ·go_simp
           constructor
           ·rfl
           rfl
          refine hK.out _ _ ⟨(blk_cell (blk_alloc HT3.out.o _) 0).trans rfl, (Lx.below HT3.out.x (below_alloc (Below.refl _ _) _)).s⟩ (fun hHeld => ?_)
          clear hK K; refine norm_ (a' := ?_) ?_ ?_
          rotate_left
          ·show Act.put _ (some 53) _ = _
           simp only [Act.put, List.setIfInBounds_toArray, List.set_cons_zero, List.set_cons_succ, i64_w, i32_w]; rfl
          refine one_ (i := 8) (N := (some 54)) #[true, true, true, true, true, true, true, true, true, false, false, false] rfl rfl (one_of HT_.out (by kernel_rfl)) (by decide) (fun K hK => ?_)
          refine Kd.R_append_step k43 (w0 := w) w.heap.size (by rfl) (.tmp 46) (.tmp 53) 22 43 (.agg #[.int .i64 0, .int .i64 0, .string (⟨#[]⟩ : ByteArray), .string (⟨#[]⟩ : ByteArray)]) 48 rfl Try.underlying22 infoT rfl (by decide) (by omega) (.slice A1 out.length cc1) out ⟨8, (s.size : Int), ⟨#[]⟩, ⟨#[]⟩⟩ [.int .i64 8, .int .i64 (s.size : Int), .string (⟨#[]⟩ : ByteArray), .string (⟨#[]⟩ : ByteArray)] (fun k => k ≠ bo ∧ k ≠ ba ∧ k ≠ be ∧ k ≠ g) (fun _ => False) rfl rfl ?aP (fun _ hk => hk.elim) ?aF ?aO ?aB ?aS ?aL ?_
          (case aP => exact k43_mkM _ _ _ ⟨8, (s.size : Int), ⟨#[]⟩, ⟨#[]⟩⟩)
          (case aB => exact HT3.out.b)
          (case aF => exact (fun k hk => by have := blk_lt HT3.out.o; have := blk_lt HT3.out.a; have := blk_lt HT3.out.e; have := blk_lt HT3.out.x; exact ⟨by omega, by omega, by omega, by omega⟩))
          (case aO => exact HT3.out.r)
          (case aS => exact (below_size HT3.out.b))
          (case aL => have := HLIM.out; omega)
          intro v1 W4 ho hb hg hat; obtain ⟨A2, cc2, rfl⟩ := Kd.R_slice ho; rw [List.length_append, List.length_singleton] at ho; have HO := am_ ho; have HT4 := am_ (Toks.set HT3.out HP.out hg HO.out hb); have hn0 : some bo ≠ (Value.slice A1 out.length cc1).ownBlock := fun e => (HT3.out.r.1 bo e.symm).1 rfl
          have hn1 : some ba ≠ (Value.slice A1 out.length cc1).ownBlock := fun e => (HT3.out.r.1 ba e.symm).2.1 rfl
          have hn2 : some be ≠ (Value.slice A1 out.length cc1).ownBlock := fun e => (HT3.out.r.1 be e.symm).2.2.1 rfl
          have hn3 : some g ≠ (Value.slice A1 out.length cc1).ownBlock := fun e => (HT3.out.r.1 g e.symm).2.2.2 rfl
          have HB0 := am_ (blk_grown HT3.out.o hg hn0); have HB1 := am_ (blk_grown HT3.out.a hg hn1); have HB2 := am_ (blk_grown HT3.out.e hg hn2); have HB3 : Aside0 (Lx W4 g s i) := ⟨blk_grown HT3.out.x hg hn3⟩
          have hz0 := blk_frozen HB0.out 0; have hz1 := blk_frozen HB1.out 0; have hz2 := blk_frozen HB2.out 0; have hy0 : W4.cell? ⟨bo, 0, none⟩ = some (.slice A1 out.length cc1) := (blk_cell HB0.out 0).trans rfl; have hy1 : W4.cell? ⟨ba, 0, none⟩ = some (.int .i64 0) := (blk_cell HB1.out 0).trans rfl; have hy2 : W4.cell? ⟨be, 0, none⟩ = some (.int .i64 0) := (blk_cell HB2.out 0).trans rfl; have e0 : ba ≠ bo := by have := HP.out.l1; omega
          have e1 : be ≠ bo := by have := HP.out.l1; have := HP.out.l2; omega
          have e2 : be ≠ ba := by have := HP.out.l2; omega
          have e3 : bo ≠ ba := e0.symm; have e4 : bo ≠ be := e1.symm; have e5 : ba ≠ be := e2.symm; clear hb hg hat hn0 hn1 hn2 hn3 ho; refine hK.out _ _ ⟨(blk_cell HB0.out 0).trans rfl, HB3.out.s⟩ (fun hHeld => ?_)
          clear hK K; refine norm_ (a' := ?_) ?_ ?_
          rotate_left
          ·show Act.put _ (some 54) _ = _
           simp only [Act.put, List.setIfInBounds_toArray, List.set_cons_zero, List.set_cons_succ, i64_w, i32_w]; rfl
          refine last_ (i := 9) (N := none) #[true, true, true, true, true, true, true, true, true, true, false, false] rfl rfl (one_of HT_.out (by kernel_rfl)) (by decide) (fun K hK => ?_)
          refine skip_ (w1 := ?_) (by rfl) rfl ?_ ?_
          rotate_left
          ·go_simp
           rfl
          refine hK.out _ _ ?_
          clear hK K; refine last_ (i := 10) (N := none) #[true, true, true, true, true, true, true, true, true, true, true, false] rfl rfl (one_of HT_.out (by kernel_rfl)) (by decide) (fun K hK => ?_)
          refine skip_ (w1 := ?_) (by rfl) rfl ?_ ?_
          rotate_left
          ·go_simp
           rfl
          refine hK.out _ _ ?_
          clear hK K; refine last_ (i := 11) (N := none) #[true, true, true, true, true, true, true, true, true, true, true, true] rfl rfl (one_of HT_.out (by kernel_rfl)) (by decide) (fun K hK => ?_)
          refine skip_ (w1 := ?_) (by rfl) rfl ?_ ?_
          rotate_left
          ·go_simp
           rfl
          refine hK.out _ _ ?_
          clear hK K; refine done_ (done_of HT_.out (by kernel_rfl)) ?_
          dsimp only [QN]; go_wp2; refine leaves_cons (f := 39) (args := #[.pointer (some ⟨bo, 0, none⟩), .pointer (some ⟨ba, 0, none⟩), .pointer (some ⟨be, 0, none⟩)]) (by simp) (by simp [go_sem]) ?_
          refine (tokens_idle bo ba be _).mono ?_
          rintro e u' w'' ⟨rfl, rfl, rfl⟩
          obtain ⟨F0, F1, F2, FR, FB⟩ := Toks.fin HT4.out HP.out; refine ⟨.tuple #[.slice A2 (out.length + 1) cc2, .int .i64 0, .int .i64 0], ?_, ⟨_, rfl, FR, FB⟩⟩
          simp [results, Try.results27, go_sem, F0, F1, F2]
    rw [if_neg hi0] at h; cases h
  rw [if_neg hl] at h; cases h
end Go.Proofs.Ytofdhdafabmhmaa.Giv
end
section
namespace Go.Proofs.Ytofdhdafabmhmaa.PLr
open Go.RowKit Go.Proofs.YtofdhdafabmhmaaW.PrintWords Go.Proofs.YtofdhdafabmhmaaW.PrintLast Go.Proofs.YtofdhdafabmhmaaW.PrintMore
attribute [local go_sem] max2_int min2_int max_two min_two max_three min_three max_four min_four
open Go.Proofs.Ytofdhdafabmhmaa.Opn Go.Proofs.Ytofdhdafabmhmaa.Giv
set_option maxRecDepth 100000

/-! ### parterrelaw07_words: function 12 -/
def parterrelaw07_words.f (k : Nat) (a0 : ByteArray) : Option ((List (S43))) := if (a0.size : Int) ≤ 140737488355328 then ((token_Tokens.f k ((bytesOf a0 : List Int))).bind fun bt242 => (some bt242.1)) else (none)
theorem parterrelaw07_words.mono : ∀ a0 k, LeO (parterrelaw07_words.f k a0) (parterrelaw07_words.f (k + 1) a0) := by
 intro a0 k; unfold parterrelaw07_words.f; repeat' first
   | (with_reducible exact token_Tokens.mono _ _)
   | (with_reducible first | exact LeO.refl _ | exact LeO.none _ | refine LeO.ite ?_ ?_ | refine LeO.bind ?_ (fun _ => ?_))
set_option maxHeartbeats 8000000 in
theorem parterrelaw07_words.calls (k : Nat) (a0 : ByteArray) (r : List (S43)) (w : World) (h : parterrelaw07_words.f k a0 = some r) :
  Calls Try.prog 12 #[.string a0] w fun e w' => ∃ v0_ : Value, e = .returned (v0_) ∧ Kd.R k43 43 w' w.heap.size (fun _ => True) v0_ r ∧ Below w.heap.size w w' := by
 have HB := am_ (Below.refl w.heap.size w); have H : (if (a0.size : Int) ≤ 140737488355328 then ((token_Tokens.f k ((bytesOf a0 : List Int))).bind fun bt242 => (some bt242.1)) else (none)) = some r := h; clear h; by_cases c2 : (a0.size : Int) ≤ 140737488355328
 ·rw [if_pos c2] at H; have c2b0 := eq_true c2; have c2b1 : decide ((a0.size : Int) ≤ 140737488355328) = true := dt_ c2; clear c2; obtain ⟨y239, hy239⟩ : ∃ y_ : List Int, y_ = ((bytesOf a0 : List Int)) := ⟨_, rfl⟩
  replace H : ((token_Tokens.f k y239).bind fun bt242 => (some bt242.1)) = some r := by first | (rw [hy239]; with_reducible exact H) | (have H2_ := (Option.bind_some _ _).symm.trans H; rw [hy239]; with_reducible exact H2_) | (have H2_ := (Option.bind_some _ _).symm.trans H; with_reducible exact H2_) | with_reducible exact H | (rw [hy239]; exact H) | exact H
  have Ny239 := am_ hy239; clear hy239; replace H := bs_ H; obtain ⟨⟨t242, t243, t244⟩, A30, H⟩ := H; try dsimp only at H
  have A3 := am_ A30; clear A30; obtain rfl := si_ H; go_enter Try.func12, Try.ntmps12
  go_wp2_with (first | ((with_reducible refine gate_dst (N := 8) rfl ?_); refine Kd.Z_bytes _ 5 9 65 ?hg (N := 8) ?hd (x := .tmp 7) a0 ?ho ?hx Try.underlying9 Try.underlying65 Try.underlying5 ?hm (Below.refl _ _) (Nat.le_refl _) ?_; (case hd => rfl); (case hg => rfl); (case ho => rfl); (case hx => first | rfl | (go_simp; done)); (case hm => have h_ : (a0.size : Int) ≤ 140737488355328 := od_ (by first | (with_reducible assumption) | assumption); omega); intro v240 w4 ho5 hb hg_ hnew_; clear hg_ hnew_; (first | rw [← Ny239.out] at ho5 | (simp only [Int.reduceToNat] at ho5; rw [← Ny239.out] at ho5)); have HO241 := am_ (Kd.Z_lower ho5 (below_size bel_)); replace HB := am_ (below_step bel_ hb); clear hb ho5; obtain ⟨Ao6, co6, eo6⟩ := Kd.Z_slice HO241.out; subst eo6) | ((with_reducible refine gate_callee (f := 27) rfl ?_); refine goesL_ (some 9) rfl rfl Try.func27 (by kernel_rfl) rfl #[.slice Ao6 y239.length co6] rfl goa_ ?_; (with_reducible refine (token_Tokens.calls k _ _ y239 t242 t243 t244 _ ?side1 ?side2 A3.out).mono ?_); (case side1 => repeat (first | exact (Kd.Z_reads' HO241.out).2.2 | (with_reducible refine Kd.C_alloc ?_ _) | (with_reducible refine Kd.C_drewN ?_ _) | (with_reducible refine Kd.C_drew ?_))); (case side2 => exact (Kd.Z_reads' HO241.out).2.1); rintro e w7 ⟨v245, rfl, ho0, hb⟩; refine ⟨_, rfl, ?_⟩; have HO246 := am_ (Kd.R_lower ho0 (below_size bel_)); replace HO241 := am_ (Kd.Z_below (by (with_reducible repeat (first | apply Kd.Z_alloc | apply Kd.Z_drewN | apply Kd.Z_drew)); exact HO241.out) hb); replace HB := am_ (below_step bel_ hb); (try clear hb); (try clear hb2); (try clear hk); (try clear hi); (try clear ho0)))
  go_ret
  exact ⟨_, rsl_, by (with_reducible repeat (first | apply Kd.R_alloc | apply Kd.R_drewN | apply Kd.R_drew)); exact HO246.out, bel_⟩
 rw [if_neg c2] at H; exact absurd H (by simp)

end Go.Proofs.Ytofdhdafabmhmaa.PLr
end
section
namespace Go.Proofs.Ytofdhdafabmhmaa.Giv
open Go.RowKit Go.Proofs.YtofdhdafabmhmaaW.PrintWords Go.Proofs.YtofdhdafabmhmaaW.PrintLast Go.Proofs.YtofdhdafabmhmaaW.PrintMore Go.Proofs.Ytofdhdafabmhmaa.PLr
open Go.Proofs.Ytofdhdafabmhmaa.Opn Go.BigFrame
def line_Pair.more (x : List S26) : Option (List S26) := if x.length = 1 then (line_other.f (rd_T26 x 0).f0 (rd_T26 x 0).f1 (rd_T26 x 0).f2).bind fun t => some (x ++ [⟨t.1, t.2.1, t.2.2⟩]) else some x
def line_Pair.f (k : Nat) (l0 : List S43) (a1 : Int) : Option (Int × Int × ByteArray × Int × Int × ByteArray × Int × Int) :=
  (line_lines.f k l0 a1 2).bind fun r => if r.2.2 = 0 then (line_Pair.more r.1).bind fun x => if x.length = 2 then some ((rd_T26 x 0).f0, (rd_T26 x 0).f1, (rd_T26 x 0).f2, (rd_T26 x 1).f0, (rd_T26 x 1).f1, (rd_T26 x 1).f2, r.2.1, 0) else none
    else some (0, 0, ⟨#[]⟩, 0, 0, ⟨#[]⟩, r.2.1, r.2.2)
theorem line_Pair.mono : ∀ l0 a1 k, LeO (line_Pair.f k l0 a1) (line_Pair.f (k + 1) l0 a1) := by
  intro l0 a1 k; unfold line_Pair.f; exact LeO.bind (line_lines.mono _ _ _ _) (fun r => LeO.refl _)
namespace line_Pair
structure Sp (w w1 : World) (b4 b5 : Nat) (x0 x1 : Int) (x2 : ByteArray) (y0 y1 : Int) (y2 : ByteArray) : Prop where
  s : w1.heap[b4]? = some (.cells #[.int .i64 x0, .int .i64 x1, .string x2] 26 (0, 0))
  e : w1.heap[b5]? = some (.cells #[.int .i64 y0, .int .i64 y1, .string y2] 26 (0, 0))
  b : Below w.heap.size w w1
  o0 : w.heap.size ≤ b4
  o1 : b4 < b5
section
variable {w w1 w2 : World} {b4 b5 : Nat} {x0 x1 y0 y1 : Int} {x2 y2 : ByteArray}
theorem Sp.below (h : Sp w w1 b4 b5 x0 x1 x2 y0 y1 y2) (hb : Below w1.heap.size w1 w2) : Sp w w2 b4 b5 x0 x1 x2 y0 y1 y2 := ⟨blk_below h.s hb, blk_below h.e hb, below_step h.b hb, h.o0, h.o1⟩
theorem Sp.drewN (h : Sp w w1 b4 b5 x0 x1 x2 y0 y1 y2) (i : Nat) : Sp w (w1.drewN i) b4 b5 x0 x1 x2 y0 y1 y2 := h.below (pw_below_drewN (Below.refl _ _) i)
theorem Sp.drew (h : Sp w w1 b4 b5 x0 x1 x2 y0 y1 y2) : Sp w w1.drew b4 b5 x0 x1 x2 y0 y1 y2 := h.below (below_drew (Below.refl _ _))
theorem Sp.alloc (h : Sp w w1 b4 b5 x0 x1 x2 y0 y1 y2) (o : Obj) : Sp w (w1.alloc o) b4 b5 x0 x1 x2 y0 y1 y2 := h.below (below_alloc (Below.refl _ _) _)
theorem Sp.grown (h : Sp w w1 b4 b5 x0 x1 x2 y0 y1 y2) {row : Option Nat} (hg : w1.grownBy w2 row) (n0 : some b4 ≠ row) (n1 : some b5 ≠ row) (hb : Below w.heap.size w w2) : Sp w w2 b4 b5 x0 x1 x2 y0 y1 y2 := ⟨blk_grown h.s hg n0, blk_grown h.e hg n1, hb, h.o0, h.o1⟩
theorem Sp.sets (h : Sp w w1 b4 b5 x0 x1 x2 y0 y1 y2) (u0 u1 : Int) (u2 : ByteArray) : Sp w (((w1.setCell ⟨b4, 0, none⟩ (.int .i64 u0)).setCell ⟨b4, 1, none⟩ (.int .i64 u1)).setCell ⟨b4, 2, none⟩ (.string u2)) b4 b5 u0 u1 u2 y0 y1 y2 := by
  have n : b5 ≠ b4 := by have := h.o1; omega
  exact ⟨blk_put (blk_put (blk_put h.s 0 _ rfl) 1 _ rfl) 2 _ rfl, blk_far (blk_far (blk_far h.e n _) n _) n _, below_set (below_set (below_set h.b h.o0) h.o0) h.o0, h.o0, h.o1⟩
theorem Sp.sete (h : Sp w w1 b4 b5 x0 x1 x2 y0 y1 y2) (u0 u1 : Int) (u2 : ByteArray) : Sp w (((w1.setCell ⟨b5, 0, none⟩ (.int .i64 u0)).setCell ⟨b5, 1, none⟩ (.int .i64 u1)).setCell ⟨b5, 2, none⟩ (.string u2)) b4 b5 x0 x1 x2 u0 u1 u2 := by
  have n : b4 ≠ b5 := by have := h.o1; omega
  have m : w.heap.size ≤ b5 := by have := h.o1; have := h.o0; omega
  exact ⟨blk_far (blk_far (blk_far h.s n _) n _) n _, blk_put (blk_put (blk_put h.e 0 _ rfl) 1 _ rfl) 2 _ rfl, below_set (below_set (below_set h.b m) m) m, h.o0, h.o1⟩
theorem Sp.c (h : Sp w w1 b4 b5 x0 x1 x2 y0 y1 y2) : w1.cell? ⟨b4, 0, none⟩ = some (.int .i64 x0) ∧ w1.cell? ⟨b4, 1, none⟩ = some (.int .i64 x1) ∧ w1.cell? ⟨b4, 2, none⟩ = some (.string x2) ∧ w1.cell? ⟨b5, 0, none⟩ = some (.int .i64 y0) ∧ w1.cell? ⟨b5, 1, none⟩ = some (.int .i64 y1) ∧ w1.cell? ⟨b5, 2, none⟩ = some (.string y2) :=
  ⟨(blk_cell h.s 0).trans rfl, (blk_cell h.s 1).trans rfl, (blk_cell h.s 2).trans rfl, (blk_cell h.e 0).trans rfl, (blk_cell h.e 1).trans rfl, (blk_cell h.e 2).trans rfl⟩
theorem Sp.f (h : Sp w w1 b4 b5 x0 x1 x2 y0 y1 y2) : w1.frozen? ⟨b4, 0, none⟩ = false ∧ w1.frozen? ⟨b4, 1, none⟩ = false ∧ w1.frozen? ⟨b4, 2, none⟩ = false ∧ w1.frozen? ⟨b5, 0, none⟩ = false ∧ w1.frozen? ⟨b5, 1, none⟩ = false ∧ w1.frozen? ⟨b5, 2, none⟩ = false :=
  ⟨blk_frozen h.s 0, blk_frozen h.s 1, blk_frozen h.s 2, blk_frozen h.e 0, blk_frozen h.e 1, blk_frozen h.e 2⟩
theorem Sp.ne (h : Sp w w1 b4 b5 x0 x1 x2 y0 y1 y2) : b4 ≠ b5 ∧ b5 ≠ b4 := by have := h.o1; omega
/-- A row of the call's own, but for these two blocks. -/
def Row (w w1 : World) (b4 b5 : Nat) (v : Value) (x : List S26) : Prop := Kd.R k26 26 w1 w.heap.size (fun k => k ≠ b4 ∧ k ≠ b5) v x
theorem Row.sets {v : Value} {x : List S26} (h : Row w w1 b4 b5 v x) (u0 u1 : Int) (u2 : ByteArray) : Row w (((w1.setCell ⟨b4, 0, none⟩ (.int .i64 u0)).setCell ⟨b4, 1, none⟩ (.int .i64 u1)).setCell ⟨b4, 2, none⟩ (.string u2)) b4 b5 v x :=
  Kd.R_far (Kd.R_far (Kd.R_far h (fun _ hk => hk.1) _) (fun _ hk => hk.1) _) (fun _ hk => hk.1) _
theorem Row.sete {v : Value} {x : List S26} (h : Row w w1 b4 b5 v x) (u0 u1 : Int) (u2 : ByteArray) : Row w (((w1.setCell ⟨b5, 0, none⟩ (.int .i64 u0)).setCell ⟨b5, 1, none⟩ (.int .i64 u1)).setCell ⟨b5, 2, none⟩ (.string u2)) b4 b5 v x :=
  Kd.R_far (Kd.R_far (Kd.R_far h (fun _ hk => hk.2) _) (fun _ hk => hk.2) _) (fun _ hk => hk.2) _
end
theorem at_ {P : Program} {id : Nat} {ops : Array Oper} {b : Bool} {Q : Exit → Act → World → Prop} {a : Act} {W : World} (h : ∀ w', w' = W → (Code.region id ops b).wp P Q a w') : (Code.region id ops b).wp P Q a W := h W rfl
def Pair.T3 : Bool × List (List Nat × List Nat) := (true, [([], []), ([], []), ([], []), ([], []), ([0, 0], [0]), ([1, 4, 0, 1, 4], [1]), ([2, 5, 0, 1, 2, 4, 5], [2]), ([3, 6, 0, 1, 2, 3, 4, 5, 6], [3])])
def Pair.B3 : List Nat := [0, 0, 0, 0, 1, 19, 55, 127]
theorem Pair.tab3 : rtab .any (opsOf Try.f8 3) = Pair.T3 := by kernel_rfl
theorem Pair.bits3 : waitsOk Pair.T3.2 Pair.B3 = true := by kernel_rfl
def Pair.T6 : Bool × List (List Nat × List Nat) := (true, [([], []), ([0], [0]), ([1], [1]), ([], []), ([3], [3]), ([4], [4]), ([], []), ([2, 0, 1, 2], [2]), ([5, 7, 0, 1, 2, 3, 4, 5, 7], [5]), ([6, 8, 0, 1, 2, 3, 4, 5, 6, 7, 8], [6]), ([9, 0, 1, 2, 3, 4, 5, 6, 7, 8, 9], [])])
def Pair.B6 : List Nat := [0, 1, 3, 0, 8, 24, 0, 7, 191, 511, 1023]
theorem Pair.tab6 : rtab .any (opsOf Try.f8 6) = Pair.T6 := by kernel_rfl
theorem Pair.bits6 : waitsOk Pair.T6.2 Pair.B6 = true := by kernel_rfl
set_option maxHeartbeats 16000000 in
set_option maxRecDepth 100000 in
theorem calls (k : Nat) (A0 : Option Addr) (c0 : Nat) (l0 : List S43) (a1 r1 r2 : Int) (r3 : ByteArray) (r4 r5 : Int) (r6 : ByteArray) (r7 r8 : Int) (w : World) (hr0 : Kd.C k43 w A0 l0.length l0) (hc0 : l0.length ≤ c0) (h : line_Pair.f k l0 a1 = some (r1, r2, r3, r4, r5, r6, r7, r8)) :
    Calls Try.prog 8 #[.slice A0 l0.length c0, .int .i64 a1] w fun e w' => e = .returned (.tuple #[.agg #[.int .i64 r1, .int .i64 r2, .string r3], .agg #[.int .i64 r4, .int .i64 r5, .string r6], .int .i64 r7, .int .i64 r8]) ∧ Below w.heap.size w w' := by
  have hu2 := Try.underlying26; have HR := am_ hr0; have HC := am_ hc0; have HB := am_ (Below.refl w.heap.size w); unfold line_Pair.f at h; replace h := bs_ h; obtain ⟨⟨t1, t2, t3⟩, hk, h⟩ := h; have A1 := am_ hk; clear hk hr0 hc0; dsimp only at h; by_cases e0 : t3 = 0
  · rw [if_pos e0] at h
    have q0 : (t3 != 0) = false := bne_eq_false_iff_eq.2 e0; clear e0; replace h := bs_ h; obtain ⟨x, hm, h⟩ := h; by_cases e1 : x.length = 2
    · rw [if_pos e1] at h
      simp only [Option.some.injEq, Prod.mk.injEq] at h; obtain ⟨rfl, rfl, rfl, rfl, rfl, rfl, rfl, rfl⟩ := h; have E1 := am_ e1; have HM := am_ hm; clear e1 hm; go_enter Try.func8, Try.ntmps8
      go_upto_if 24 with (first | go_step3 | ((with_reducible refine gate_dst (N := 4) rfl ?_); refine box_event ?hg (N := 4) ?hd (cs := #[.int .i64 0, .int .i64 0, .string (⟨#[]⟩ : ByteArray)]) (t := 26) ?hr ?_; (case hd => rfl); (case hg => rfl); (case hr => first | (go_simp; done) | (go_simp; rfl)); intro b4 hg w2 hbox hb; have n0_ := am_ (below_step bel_ hb); have BL := am_ hbox; have OL := am_ ((bsz_ hg : w.heap.size ≤ b4)); clear HB; have HB := n0_; clear n0_ hb hbox hg) | ((with_reducible refine gate_dst (N := 5) rfl ?_); refine box_event ?hg (N := 5) ?hd (cs := #[.int .i64 0, .int .i64 0, .string (⟨#[]⟩ : ByteArray)]) (t := 26) ?hr ?_; (case hd => rfl); (case hg => rfl); (case hr => first | (go_simp; done) | (go_simp; rfl)); intro b5 hg w3 hbox hb; have HX : Aside0 (Sp w w3 b4 b5 0 0 ⟨#[]⟩ 0 0 ⟨#[]⟩) := ⟨⟨(blb_ BL hb).out, hbox, below_step bel_ hb, OL.out, line_Read.blt_ BL hg⟩⟩; clear HB BL OL hb hbox hg) | ((with_reducible refine gate_callee (f := 23) rfl ?_); refine goesL_ (some 12) rfl rfl Try.func23 (by kernel_rfl) rfl #[.slice A0 l0.length c0, .int .i64 a1, .int .i64 2] rfl goa_ ?_; (with_reducible refine (line_lines.calls k _ _ l0 a1 2 t1 t2 t3 _ ?side1 ?side2 A1.out).mono ?_); (case side1 => exact Kd.C_below HR.out (show Sp w _ b4 b5 0 0 ⟨#[]⟩ 0 0 ⟨#[]⟩ by repeat (first | (with_reducible first | exact HX.out | apply Sp.drewN | apply Sp.drew | apply Sp.alloc))).b); (case side2 => exact HC.out); rintro e w10 ⟨v, rfl, ho0, hb⟩; refine ⟨_, rfl, ?_⟩; have HO : Aside0 (Row w w10 b4 b5 v t1) := ⟨Kd.R_mono (Kd.R_lower (Kd.R_newB (Kd.R_newB ho0 (g := b4) (show Sp w _ b4 b5 0 0 ⟨#[]⟩ 0 0 ⟨#[]⟩ by repeat (first | (with_reducible first | exact HX.out | apply Sp.drewN | apply Sp.drew | apply Sp.alloc))).s) (g := b5) (show Sp w _ b4 b5 0 0 ⟨#[]⟩ 0 0 ⟨#[]⟩ by repeat (first | (with_reducible first | exact HX.out | apply Sp.drewN | apply Sp.drew | apply Sp.alloc))).e) (below_size (show Sp w _ b4 b5 0 0 ⟨#[]⟩ 0 0 ⟨#[]⟩ by repeat (first | (with_reducible first | exact HX.out | apply Sp.drewN | apply Sp.drew | apply Sp.alloc))).b)) (fun _ hk => ⟨hk.1.2, hk.2⟩)⟩; have n0_ := am_ (Sp.below (show Sp w _ b4 b5 0 0 ⟨#[]⟩ 0 0 ⟨#[]⟩ by repeat (first | (with_reducible first | exact HX.out | apply Sp.drewN | apply Sp.drew | apply Sp.alloc))) hb); clear HX hb ho0; have HX := n0_; clear n0_; obtain ⟨Ao, cv, eo⟩ := Kd.R_slice HO.out; subst eo; obtain ⟨hc0, hc1, hc2, hc3, hc4, hc5⟩ := HX.out.c; obtain ⟨hz0, hz1, hz2, hz3, hz4, hz5⟩ := HX.out.f; obtain ⟨hn0, hn1⟩ := HX.out.ne))
      go_cut [8] (fun v8 wc => ∃ (ad : Addr) (cx : Nat), v8 = .slice (some ad) x.length cx ∧ Aside0 (Sp w wc b4 b5 0 0 ⟨#[]⟩ 0 0 ⟨#[]⟩) ∧ Aside0 (Row w wc b4 b5 (.slice (some ad) x.length cx) x))
      case first =>
        have hm := HM.out; clear HM; have hn : 0 < t1.length := by
          unfold line_Pair.more at hm; by_cases e2 : t1.length = 1
          · omega
          rw [if_neg e2] at hm; have := E1.out
          rw [← si_ hm] at this; omega
        obtain ⟨ad, cv2, ev⟩ := Kd.R_slice1 HO.out hn; cases ev
        unfold line_Pair.more at hm; by_cases e2 : t1.length = 1
        · rw [if_pos e2] at hm
          replace hm := bs_ hm; obtain ⟨⟨u1, u2, u3⟩, ho, hm⟩ := hm; have A2 := am_ ho; obtain rfl := si_ hm; have c5b0 : decide ((t1.length : Int) < 2) = true := dt_ (by omega); have c5b1 : decide (t1.length < 2) = true := dt_ (by omega); obtain ⟨_, e0, hx0, hx1, hx2⟩ := at_T26 (Kd.R_reads' HO.out).2.2 0 (by omega) (by omega); cases e0
          have qi : (0 < t1.length) = True := eq_true hn; have E2 := am_ e2; clear ho hn e2; (try rw [show ((0 : Int)).toNat = 0 from rfl] at hx0 hx1 hx2)
          (try rw [show 0 * 3 = 0 from rfl] at hx0 hx1 hx2)
          (try rw [Addr.add_zero'] at hx0 hx1 hx2)
          (first | rw [c5b0] | rw [c5b1] | (simp only [i64_w, i32_w]; rw [c5b0]) | skip)
          go_wp2_with (first | go_step3 | ((with_reducible refine gate_callee (f := 24) rfl ?_); refine goesL_ (some 29) rfl rfl Try.func24 (by kernel_rfl) rfl #[.agg #[.int .i64 (rd_T26 t1 0).f0, .int .i64 (rd_T26 t1 0).f1, .string (rd_T26 t1 0).f2]] rfl goa_ ?_; (with_reducible refine (line_other.calls _ _ _ u1 u2 u3 _ A2.out).mono ?_); rintro e w13 ⟨rfl, hb⟩; refine ⟨_, rfl, ?_⟩; have n0_ := am_ (Sp.below (show Sp w _ b4 b5 0 0 ⟨#[]⟩ 0 0 ⟨#[]⟩ by repeat (first | (with_reducible first | exact HX.out | apply Sp.drewN | apply Sp.drew | apply Sp.alloc))) hb); have n1_ : Aside0 (Row w w13 b4 b5 (.slice (some ad) t1.length cv) t1) := ⟨Kd.R_below (row_ HO) hb⟩; clear HX HO hb; have HX := n0_; have HO := n1_; clear n0_ n1_) | ((with_reducible refine gate_builtin (b := .append) (xs := #[.tmp 25, .tmp 30]) rfl ?_); at_builtin; refine Kd.R_append k26 (w0 := w) w.heap.size rfl (.tmp 25) (.tmp 30) 57 26 (.agg #[(.int .i64 0), (.int .i64 0), (.string ⟨#[]⟩)]) 32 rfl Try.underlying57 info26 rfl (by decide) (by omega) (.slice (some ad) t1.length cv) t1 (⟨u1, u2, u3⟩ : S26) [.int .i64 u1, .int .i64 u2, .string u3] (fun k => k ≠ b4 ∧ k ≠ b5) (fun _ => False) rfl rfl ?aP (fun _ hk => hk.elim) ?aF ?aO ?aB ?aS ?aL ?_; (case aP => exact k26_mkM _ _ _ (⟨u1, u2, u3⟩ : S26)); (case aB => exact (Sp.b (show Sp w _ b4 b5 0 0 ⟨#[]⟩ 0 0 ⟨#[]⟩ by repeat (first | (with_reducible first | exact HX.out | apply Sp.drewN | apply Sp.drew | apply Sp.alloc))))); (case aF => exact (fun k hk => by have := blk_lt (Sp.s (show Sp w _ b4 b5 0 0 ⟨#[]⟩ 0 0 ⟨#[]⟩ by repeat (first | (with_reducible first | exact HX.out | apply Sp.drewN | apply Sp.drew | apply Sp.alloc)))); have := blk_lt (Sp.e (show Sp w _ b4 b5 0 0 ⟨#[]⟩ 0 0 ⟨#[]⟩ by repeat (first | (with_reducible first | exact HX.out | apply Sp.drewN | apply Sp.drew | apply Sp.alloc)))); exact ⟨by omega, by omega⟩)); (case aO => exact (row_ HO)); (case aS => exact (below_size (Sp.b (show Sp w _ b4 b5 0 0 ⟨#[]⟩ 0 0 ⟨#[]⟩ by repeat (first | (with_reducible first | exact HX.out | apply Sp.drewN | apply Sp.drew | apply Sp.alloc)))))); (case aL => have := E2.out; omega); intro v2 w14 ho hb hg hat; have HG := am_ (HO.out.1 ad.block rfl); have n0_ := am_ (Sp.grown (show Sp w _ b4 b5 0 0 ⟨#[]⟩ 0 0 ⟨#[]⟩ by repeat (first | (with_reducible first | exact HX.out | apply Sp.drewN | apply Sp.drew | apply Sp.alloc))) hg (fun e => HG.out.1 (si_ e).symm) (fun e => HG.out.2 (si_ e).symm) hb); clear HX HO; have HX := n0_; have HO : Aside0 (Row w w14 b4 b5 v2 (t1 ++ [⟨u1, u2, u3⟩])) := ⟨ho⟩; clear n0_ ho hb hg hat HG))
          have hl : (t1 ++ [(⟨u1, u2, u3⟩ : S26)]).length = t1.length + 1 := by rw [List.length_append, List.length_singleton]
          obtain ⟨ad2, cx, rfl⟩ := Kd.R_slice1 HO.out (by rw [hl]; omega); go_meet
          case rel => exact ⟨ad2, cx, rfl, HX, HO⟩
        rw [if_neg e2] at hm; obtain rfl := si_ hm; have c5b0 : decide ((t1.length : Int) < 2) = false := df_ (by have := E1.out; omega); have c5b1 : decide (t1.length < 2) = false := df_ (by have := E1.out; omega); clear hn e2; (first | rw [c5b0] | rw [c5b1] | (simp only [i64_w, i32_w]; rw [c5b0]) | skip)
        go_wp2_with (first | go_step3)
        go_meet
        case rel => exact ⟨ad, cv, rfl, ⟨(show Sp w _ b4 b5 0 0 ⟨#[]⟩ 0 0 ⟨#[]⟩ by repeat (first | (with_reducible first | exact HX.out | apply Sp.drewN | apply Sp.drew | apply Sp.alloc)))⟩, ⟨(row_ HO)⟩⟩
      clear HX HO HM; obtain ⟨ad, cx, rfl, HX, HO⟩ := hcut; have qx0 : (0 < x.length) = True := eq_true (by have := E1.out; omega); have qx1 : (1 < x.length) = True := eq_true (by have := E1.out; omega); go_wp2_with (first | go_step3)
      refine at_ (fun w4 hw4 => ?_)
      have HX4 : Aside0 (Sp w w4.drew b4 b5 0 0 ⟨#[]⟩ 0 0 ⟨#[]⟩) := ⟨Sp.drew (by rw [hw4]; exact (show Sp w _ b4 b5 0 0 ⟨#[]⟩ 0 0 ⟨#[]⟩ by repeat (first | (with_reducible first | exact HX.out | apply Sp.drewN | apply Sp.drew | apply Sp.alloc))))⟩
      have HO4 : Aside0 (Row w w4.drew b4 b5 (.slice (some ad) x.length cx) x) := ⟨Kd.R_drew (by rw [hw4]; exact (row_ HO))⟩
      clear hw4 HX HO; have hx2 := E1.out; refine start_ (n := 11) (S := (fun w' => Kd.C k26 w' (some ad) x.length x)) (ds := []) #[false, false, false, false, false, false, false, false, false, false, false] (by kernel_rfl) rfl rfl (Kd.R_reads' HO4.out).2.2 (fun hHeld => ?_)
      refine with_tabW Pair.tab6 Pair.bits6 (fun HT_ HW_ => ?_)
      generalize w4.drew = w5 at HX4 HO4 hHeld ⊢
      refine pus_ 0 (some 32) #[true, false, false, false, false, false, false, false, false, false, false] rfl rfl HT_.out ?_
      refine pus_ 1 (some 33) #[true, true, false, false, false, false, false, false, false, false, false] rfl rfl HT_.out ?_
      refine take_ (i := 2) (N := (some 34)) (v := ?_) (a' := ?_) #[true, true, true, false, false, false, false, false, false, false, false] rfl rfl (take_ofW HT_.out HW_.out (by kernel_rfl)) (fun _ _ _ h => h) (Or.inl ⟨by rfl, ?_⟩) hHeld ?_ ?_
      rotate_left
      ·rintro w' hS
       obtain ⟨_, e0, h0, h1, h2⟩ := at_T26 hS 0 (by omega) (by omega); cases e0
       (try rw [show ((0 : Int)).toNat = 0 from rfl] at h0 h1 h2)
       (try rw [show 0 * 3 = 0 from rfl] at h0 h1 h2)
       (try rw [Addr.add_zero'] at h0 h1 h2)
       (try simp only [Addr.add, show ((1 : Int)).toNat * 3 = 3 from rfl, show ((3 : Nat) = 0) = False from eq_false (by decide), if_false] at h0 h1 h2)
       go_simp
       with_reducible rfl
      rotate_left
      ·simp only [Act.put, List.setIfInBounds_toArray, List.set_cons_zero, List.set_cons_succ, i64_w, i32_w]; rfl
      refine pus_ 3 (some 35) #[true, true, true, true, false, false, false, false, false, false, false] rfl rfl HT_.out ?_
      refine pus_ 4 (some 36) #[true, true, true, true, true, false, false, false, false, false, false] rfl rfl HT_.out ?_
      refine take_ (i := 5) (N := (some 37)) (v := ?_) (a' := ?_) #[true, true, true, true, true, true, false, false, false, false, false] rfl rfl (take_ofW HT_.out HW_.out (by kernel_rfl)) (fun _ _ _ h => h) (Or.inl ⟨by rfl, ?_⟩) hHeld ?_ ?_
      rotate_left
      ·rintro w' hS
       obtain ⟨_, e0, h0, h1, h2⟩ := at_T26 hS 1 (by omega) (by omega); cases e0
       (try rw [show ((0 : Int)).toNat = 0 from rfl] at h0 h1 h2)
       (try rw [show 0 * 3 = 0 from rfl] at h0 h1 h2)
       (try rw [Addr.add_zero'] at h0 h1 h2)
       (try simp only [Addr.add, show ((1 : Int)).toNat * 3 = 3 from rfl, show ((3 : Nat) = 0) = False from eq_false (by decide), if_false] at h0 h1 h2)
       go_simp
       with_reducible rfl
      rotate_left
      ·simp only [Act.put, List.setIfInBounds_toArray, List.set_cons_zero, List.set_cons_succ, i64_w, i32_w]; rfl
      refine pus_ 6 (some 38) #[true, true, true, true, true, true, true, false, false, false, false] rfl rfl HT_.out ?_
      obtain ⟨hz0, hz1, hz2, hz3, hz4, hz5⟩ := HX4.out.f; obtain ⟨hc0, hc1, hc2, hc3, hc4, hc5⟩ := HX4.out.c; have HX5 := am_ (HX4.out.sets (rd_T26 x 0).f0 (rd_T26 x 0).f1 (rd_T26 x 0).f2); have HO5 := am_ (Row.sets HO4.out (rd_T26 x 0).f0 (rd_T26 x 0).f1 (rd_T26 x 0).f2); have HX6 := am_ (HX5.out.sete (rd_T26 x 1).f0 (rd_T26 x 1).f1 (rd_T26 x 1).f2); have HO6 := am_ (Row.sete HO5.out (rd_T26 x 1).f0 (rd_T26 x 1).f1 (rd_T26 x 1).f2); refine one_ (i := 7) (N := none) #[true, true, true, true, true, true, true, true, false, false, false] rfl rfl (one_of HT_.out (by kernel_rfl)) (by decide) (fun K hK => ?_)
      refine skip_ (w1 := ?_) (by rfl) rfl ?_ ?_
      rotate_left
      ·go_simp
       rfl
      refine hK.out _ _ (Kd.R_reads' HO5.out).2.2 (fun hHeld => ?_)
      clear hK K; refine one_ (i := 8) (N := none) #[true, true, true, true, true, true, true, true, true, false, false] rfl rfl (one_of HT_.out (by kernel_rfl)) (by decide) (fun K hK => ?_)
      refine skip_ (w1 := ?_) (by rfl) rfl ?_ ?_
      rotate_left
      ·go_simp
       rfl
      refine hK.out _ _ (Kd.R_reads' HO6.out).2.2 (fun hHeld => ?_)
      clear hK K; refine pus_ 9 (some 6) #[true, true, true, true, true, true, true, true, true, true, false] rfl rfl HT_.out ?_
      refine pus_ 10 (some 7) #[true, true, true, true, true, true, true, true, true, true, true] rfl rfl HT_.out ?_
      refine done_ (done_of HT_.out (by kernel_rfl)) ?_
      go_wp2; (try (rw [Exit.noGoto_ret]; try dsimp only [Exit.inBlock, Exit.then]))
      refine bodyPost_ret (results_list (rs := [.cell 4 26, .cell 5 26, .tmp 6, .tmp 7]) rfl (by simp) (.cell b4 26 #[.int .i64 (rd_T26 x 0).f0, .int .i64 (rd_T26 x 0).f1, .string (rd_T26 x 0).f2] (0, 0) _ rfl HX6.out.s Try.underlying26 rfl (by kernel_rfl) (.cell b5 26 #[.int .i64 (rd_T26 x 1).f0, .int .i64 (rd_T26 x 1).f1, .string (rd_T26 x 1).f2] (0, 0) _ rfl HX6.out.e Try.underlying26 rfl (by kernel_rfl) (.tmp (.tmp .nil))))) rfl ?_
      exact ⟨rsl_, HX6.out.b⟩
    rw [if_neg e1] at h; cases h
  rw [if_neg e0] at h; have q0 : (t3 != 0) = true := bne_iff_ne.2 e0; clear e0; simp only [Option.some.injEq, Prod.mk.injEq] at h; obtain ⟨rfl, rfl, rfl, rfl, rfl, rfl, rfl, rfl⟩ := h; go_enter Try.func8, Try.ntmps8
  go_wp2_with (first | go_step3 | ((with_reducible refine gate_dst (N := 4) rfl ?_); refine box_event ?hg (N := 4) ?hd (cs := #[.int .i64 0, .int .i64 0, .string (⟨#[]⟩ : ByteArray)]) (t := 26) ?hr ?_; (case hd => rfl); (case hg => rfl); (case hr => first | (go_simp; done) | (go_simp; rfl)); intro b4 hg w2 hbox hb; have n0_ := am_ (below_step bel_ hb); have BL := am_ hbox; have OL := am_ ((bsz_ hg : w.heap.size ≤ b4)); clear HB; have HB := n0_; clear n0_ hb hbox hg) | ((with_reducible refine gate_dst (N := 5) rfl ?_); refine box_event ?hg (N := 5) ?hd (cs := #[.int .i64 0, .int .i64 0, .string (⟨#[]⟩ : ByteArray)]) (t := 26) ?hr ?_; (case hd => rfl); (case hg => rfl); (case hr => first | (go_simp; done) | (go_simp; rfl)); intro b5 hg w3 hbox hb; have HX : Aside0 (Sp w w3 b4 b5 0 0 ⟨#[]⟩ 0 0 ⟨#[]⟩) := ⟨⟨(blb_ BL hb).out, hbox, below_step bel_ hb, OL.out, line_Read.blt_ BL hg⟩⟩; clear HB BL OL hb hbox hg) | ((with_reducible refine gate_callee (f := 23) rfl ?_); refine goesL_ (some 12) rfl rfl Try.func23 (by kernel_rfl) rfl #[.slice A0 l0.length c0, .int .i64 a1, .int .i64 2] rfl goa_ ?_; (with_reducible refine (line_lines.calls k _ _ l0 a1 2 t1 t2 t3 _ ?side1 ?side2 A1.out).mono ?_); (case side1 => exact Kd.C_below HR.out (show Sp w _ b4 b5 0 0 ⟨#[]⟩ 0 0 ⟨#[]⟩ by repeat (first | (with_reducible first | exact HX.out | apply Sp.drewN | apply Sp.drew | apply Sp.alloc))).b); (case side2 => exact HC.out); rintro e w10 ⟨v, rfl, ho0, hb⟩; refine ⟨_, rfl, ?_⟩; have HO : Aside0 (Row w w10 b4 b5 v t1) := ⟨Kd.R_mono (Kd.R_lower (Kd.R_newB (Kd.R_newB ho0 (g := b4) (show Sp w _ b4 b5 0 0 ⟨#[]⟩ 0 0 ⟨#[]⟩ by repeat (first | (with_reducible first | exact HX.out | apply Sp.drewN | apply Sp.drew | apply Sp.alloc))).s) (g := b5) (show Sp w _ b4 b5 0 0 ⟨#[]⟩ 0 0 ⟨#[]⟩ by repeat (first | (with_reducible first | exact HX.out | apply Sp.drewN | apply Sp.drew | apply Sp.alloc))).e) (below_size (show Sp w _ b4 b5 0 0 ⟨#[]⟩ 0 0 ⟨#[]⟩ by repeat (first | (with_reducible first | exact HX.out | apply Sp.drewN | apply Sp.drew | apply Sp.alloc))).b)) (fun _ hk => ⟨hk.1.2, hk.2⟩)⟩; have n0_ := am_ (Sp.below (show Sp w _ b4 b5 0 0 ⟨#[]⟩ 0 0 ⟨#[]⟩ by repeat (first | (with_reducible first | exact HX.out | apply Sp.drewN | apply Sp.drew | apply Sp.alloc))) hb); clear HX hb ho0; have HX := n0_; clear n0_; obtain ⟨Ao, cv, eo⟩ := Kd.R_slice HO.out; subst eo; obtain ⟨hc0, hc1, hc2, hc3, hc4, hc5⟩ := HX.out.c; obtain ⟨hz0, hz1, hz2, hz3, hz4, hz5⟩ := HX.out.f; obtain ⟨hn0, hn1⟩ := HX.out.ne))
  refine at_ (fun w4 hw4 => ?_)
  have HX4 : Aside0 (Sp w w4.drew b4 b5 0 0 ⟨#[]⟩ 0 0 ⟨#[]⟩) := ⟨Sp.drew (by rw [hw4]; exact (show Sp w _ b4 b5 0 0 ⟨#[]⟩ 0 0 ⟨#[]⟩ by repeat (first | (with_reducible first | exact HX.out | apply Sp.drewN | apply Sp.drew | apply Sp.alloc))))⟩
  clear hw4 HX hc0 hc1 hc2 hc3 hc4 hc5 hz0 hz1 hz2 hz3 hz4 hz5; refine start_ (n := 8) (S := (fun w' => w'.cell? ⟨b4, 0, none⟩ = some (.int .i64 0) ∧ w'.cell? ⟨b4, 1, none⟩ = some (.int .i64 0) ∧ w'.cell? ⟨b4, 2, none⟩ = some (.string ⟨#[]⟩) ∧ w'.cell? ⟨b5, 0, none⟩ = some (.int .i64 0) ∧ w'.cell? ⟨b5, 1, none⟩ = some (.int .i64 0) ∧ w'.cell? ⟨b5, 2, none⟩ = some (.string ⟨#[]⟩))) (ds := []) #[false, false, false, false, false, false, false, false] (by kernel_rfl) rfl rfl HX4.out.c (fun hHeld => ?_)
  refine with_tabW Pair.tab3 Pair.bits3 (fun HT_ HW_ => ?_)
  generalize w4.drew = w5 at HX4 hHeld ⊢
  refine tas_ 0 (some 18) #[true, false, false, false, false, false, false, false] rfl rfl HT_.out HW_.out hHeld ?_
  refine tas_ 1 (some 19) #[true, true, false, false, false, false, false, false] rfl rfl HT_.out HW_.out hHeld ?_
  refine pus_ 2 (some 20) #[true, true, true, false, false, false, false, false] rfl rfl HT_.out ?_
  refine pus_ 3 (some 21) #[true, true, true, true, false, false, false, false] rfl rfl HT_.out ?_
  obtain ⟨hz0, hz1, hz2, hz3, hz4, hz5⟩ := HX4.out.f; obtain ⟨hc0, hc1, hc2, hc3, hc4, hc5⟩ := HX4.out.c; have HX5 := am_ (HX4.out.sets 0 0 ⟨#[]⟩); have HX6 := am_ (HX5.out.sete 0 0 ⟨#[]⟩); refine one_ (i := 4) (N := none) #[true, true, true, true, true, false, false, false] rfl rfl (one_of HT_.out (by kernel_rfl)) (by decide) (fun K hK => ?_)
  refine skip_ (w1 := ?_) (by rfl) rfl ?_ ?_
  rotate_left
  ·go_simp
   rfl
  refine hK.out _ _ HX5.out.c (fun hHeld => ?_)
  clear hK K; refine one_ (i := 5) (N := none) #[true, true, true, true, true, true, false, false] rfl rfl (one_of HT_.out (by kernel_rfl)) (by decide) (fun K hK => ?_)
  refine skip_ (w1 := ?_) (by rfl) rfl ?_ ?_
  rotate_left
  ·go_simp
   rfl
  refine hK.out _ _ HX6.out.c (fun hHeld => ?_)
  clear hK K; refine pus_ 6 (some 6) #[true, true, true, true, true, true, true, false] rfl rfl HT_.out ?_
  refine pus_ 7 (some 7) #[true, true, true, true, true, true, true, true] rfl rfl HT_.out ?_
  refine done_ (done_of HT_.out (by kernel_rfl)) ?_
  go_wp2; (try (rw [Exit.noGoto_ret]; try dsimp only [Exit.inBlock, Exit.then]))
  refine bodyPost_ret (results_list (rs := [.cell 4 26, .cell 5 26, .tmp 6, .tmp 7]) rfl (by simp) (.cell b4 26 #[.int .i64 0, .int .i64 0, .string (⟨#[]⟩ : ByteArray)] (0, 0) _ rfl HX6.out.s Try.underlying26 rfl (by kernel_rfl) (.cell b5 26 #[.int .i64 0, .int .i64 0, .string (⟨#[]⟩ : ByteArray)] (0, 0) _ rfl HX6.out.e Try.underlying26 rfl (by kernel_rfl) (.tmp (.tmp .nil))))) rfl ?_
  exact ⟨rsl_, HX6.out.b⟩
end line_Pair
end Go.Proofs.Ytofdhdafabmhmaa.Giv
end
section
namespace Go.Proofs.Ytofdhdafabmhmaa.PLr
open Go.RowKit Go.Proofs.YtofdhdafabmhmaaW.PrintWords Go.Proofs.YtofdhdafabmhmaaW.PrintLast Go.Proofs.YtofdhdafabmhmaaW.PrintMore
attribute [local go_sem] max2_int min2_int max_two min_two max_three min_three max_four min_four
open Go.Proofs.Ytofdhdafabmhmaa.Opn Go.Proofs.Ytofdhdafabmhmaa.Giv
set_option maxRecDepth 100000

attribute [local go_sem high] eqA26
/-! ### parterrelaw07_lives: function 5 -/
def parterrelaw07_lives.l0 : Nat → List ByteArray → Int → Int → Int → Int → ByteArray → Option (Bool)
 | 0, _, _, _, _, _, _ => none
 | k + 1, x15, x16, x17, x248000, x248001, x248002 => if x17 < x16 then (if 0 ≤ x17 then (if x17 < (x15.length : Int) then ((parterrelaw07_words.f k (rdOf ByteArray.empty x15 x17)).bind fun t252 => ((line_Read.f k t252 0).bind fun bt255 => (if bt255.2.2.2.2 = 0 then (if (!(bt255.1 == x248000) || (!(bt255.2.1 == x248001) || (!(bt255.2.2.1.toList == x248002.toList)))) = true then (none) else (parterrelaw07_lives.l0 k x15 x16 (wrap64 (x17 + 1)) x248000 x248001 x248002)) else (none)))) else (none)) else (none)) else ((parterrelaw07_words.f k (⟨#[97]⟩ : ByteArray)).bind fun t261 => ((line_Pair.f k t261 0).bind fun bt264 => ((parterrelaw07_words.f k (⟨#[48]⟩ : ByteArray)).bind fun t274 => ((line_Read.f k t274 0).bind fun bt277 => (if bt264.2.2.2.2.2.2.2 = 0 then (if (bt264.1 == bt264.2.2.2.1 && (bt264.2.1 == bt264.2.2.2.2.1 && (bt264.2.2.1.toList == bt264.2.2.2.2.2.1.toList))) = true then (if bt264.2.2.1.toList = ([97] : List UInt8) then (some (bt277.2.2.2.2 == 50)) else (none)) else (none)) else (none))))))
def parterrelaw07_lives.f (k : Nat)  : Option (Bool) := (some (([(⟨#[115, 112, 97, 110, 32, 50, 32, 97]⟩ : ByteArray), (⟨#[97, 32, 50, 32, 115, 112, 97, 110]⟩ : ByteArray), (⟨#[115, 112, 97, 110, 32, 97, 32, 50]⟩ : ByteArray)] : List ByteArray) : List ByteArray)).bind fun y248 => (parterrelaw07_lives.l0 k y248 (y248.length : Int) 0 4 2 (⟨#[97]⟩ : ByteArray))
theorem parterrelaw07_lives.mono_l : ∀ k, (∀ y0 y1 y2 y3 y4 y5, LeO (parterrelaw07_lives.l0 k y0 y1 y2 y3 y4 y5) (parterrelaw07_lives.l0 (k + 1) y0 y1 y2 y3 y4 y5))
 | 0 => fun _ _ _ _ _ _ r h => by simp [parterrelaw07_lives.l0] at h
 | k + 1 => by
  have ih0 := parterrelaw07_lives.mono_l k; intro y0 y1 y2 y3 y4 y5; unfold parterrelaw07_lives.l0; repeat' first
  | (with_reducible exact ih0 _ _ _ _ _ _)
  | (with_reducible exact line_Pair.mono _ _ _)
  | (with_reducible exact line_Read.mono _ _ _)
  | (with_reducible exact parterrelaw07_words.mono _ _)
  | (with_reducible first | exact LeO.refl _ | exact LeO.none _ | refine LeO.ite ?_ ?_ | refine LeO.bind ?_ (fun _ => ?_))
theorem parterrelaw07_lives.mono : ∀ k, LeO (parterrelaw07_lives.f k ) (parterrelaw07_lives.f (k + 1) ) := by
 intro  k; have ih0 := parterrelaw07_lives.mono_l k; unfold parterrelaw07_lives.f; repeat' first
   | (with_reducible exact ih0 _ _ _ _ _ _)
   | (with_reducible exact line_Pair.mono _ _ _)
   | (with_reducible exact line_Read.mono _ _ _)
   | (with_reducible exact parterrelaw07_words.mono _ _)
   | (with_reducible first | exact LeO.refl _ | exact LeO.none _ | refine LeO.ite ?_ ?_ | refine LeO.bind ?_ (fun _ => ?_))
set_option maxHeartbeats 8000000 in
theorem parterrelaw07_lives.calls (k : Nat)  (r : Bool) (w : World) (h : parterrelaw07_lives.f k  = some r) :
  Calls Try.prog 5 #[] w fun e w' => e = .returned (.bool r) ∧ Below w.heap.size w w' := by
 have hu26 := Try.underlying26; have HB := am_ (Below.refl w.heap.size w); have H : ((some (([(⟨#[115, 112, 97, 110, 32, 50, 32, 97]⟩ : ByteArray), (⟨#[97, 32, 50, 32, 115, 112, 97, 110]⟩ : ByteArray), (⟨#[115, 112, 97, 110, 32, 97, 32, 50]⟩ : ByteArray)] : List ByteArray) : List ByteArray)).bind fun y248 => (parterrelaw07_lives.l0 k y248 (y248.length : Int) 0 4 2 (⟨#[97]⟩ : ByteArray))) = some r := h; clear h; obtain ⟨y248, hy248⟩ : ∃ y_ : List ByteArray, y_ = (([(⟨#[115, 112, 97, 110, 32, 50, 32, 97]⟩ : ByteArray), (⟨#[97, 32, 50, 32, 115, 112, 97, 110]⟩ : ByteArray), (⟨#[115, 112, 97, 110, 32, 97, 32, 50]⟩ : ByteArray)] : List ByteArray)) := ⟨_, rfl⟩
 replace H : (parterrelaw07_lives.l0 k y248 (y248.length : Int) 0 4 2 (⟨#[97]⟩ : ByteArray)) = some r := by first | (rw [hy248]; with_reducible exact H) | (have H2_ := (Option.bind_some _ _).symm.trans H; rw [hy248]; with_reducible exact H2_) | (have H2_ := (Option.bind_some _ _).symm.trans H; with_reducible exact H2_) | with_reducible exact H | (rw [hy248]; exact H) | exact H
 have Ny248 := am_ hy248; clear hy248; have H' := am_ H; clear H; go_enter Try.func5, Try.ntmps5
 go_wp2_with (first | ((with_reducible refine gate_dst (N := 1) rfl ?_); refine box_event ?hg (N := 1) ?hd (cs := #[.int .i64 0, .int .i64 0, .string (⟨#[]⟩ : ByteArray)]) (t := 26) ?hr ?_; (case hd => rfl); (case hg => rfl); (case hr => first | (go_simp; done) | (go_simp; rfl)); intro gb247 hg w1 hbox hb; have BK247 := am_ (hbox); have GW247 := am_ ((bsz_ hg : w.heap.size ≤ gb247)); have GE247 := am_ ((bsz_ hg : w.heap.size ≤ gb247)); replace HB := am_ (below_step bel_ hb); clear hb hbox hg; obtain ⟨hcz2_0, hcz2_1, hcz2_2⟩ := c3_ BK247; obtain ⟨hfz2_0, hfz2_1, hfz2_2⟩ := f3_ BK247) | ((with_reducible refine gate_dst (N := 15) rfl ?_); refine Kd.R_lit Kd.string _ 9 ?hg (N := 15) ?hd (xs := ([(⟨#[115, 112, 97, 110, 32, 50, 32, 97]⟩ : ByteArray), (⟨#[97, 32, 50, 32, 115, 112, 97, 110]⟩ : ByteArray), (⟨#[115, 112, 97, 110, 32, 97, 32, 50]⟩ : ByteArray)] : List ByteArray)) (inner := [.string (⟨#[115, 112, 97, 110, 32, 50, 32, 97]⟩ : ByteArray), .string (⟨#[97, 32, 50, 32, 115, 112, 97, 110]⟩ : ByteArray), .string (⟨#[115, 112, 97, 110, 32, 97, 32, 50]⟩ : ByteArray)]) (ok := fun _ => True) (okp := fun _ => True) ?hr ?hp (fun _ hk => hk) trivial (Below.refl _ _) (Nat.le_refl _) (by simp) ?_; (case hd => rfl); (case hg => rfl); (case hr => first | (go_simp; done) | (go_simp; rfl)); (case hp => exact (Reps.one (show Kd.M Kd.string _ _ _ (⟨#[115, 112, 97, 110, 32, 50, 32, 97]⟩ : ByteArray) [.string (⟨#[115, 112, 97, 110, 32, 50, 32, 97]⟩ : ByteArray)] from rfl) (Reps.one (show Kd.M Kd.string _ _ _ (⟨#[97, 32, 50, 32, 115, 112, 97, 110]⟩ : ByteArray) [.string (⟨#[97, 32, 50, 32, 115, 112, 97, 110]⟩ : ByteArray)] from rfl) (Reps.one (show Kd.M Kd.string _ _ _ (⟨#[115, 112, 97, 110, 32, 97, 32, 50]⟩ : ByteArray) [.string (⟨#[115, 112, 97, 110, 32, 97, 32, 50]⟩ : ByteArray)] from rfl) (Reps.none _ _))))); intro v249 w3 ho4 hb hg_ hnew_; clear hg_ hnew_; (first | rw [← Ny248.out] at ho4 | (simp only [Int.reduceToNat] at ho4; rw [← Ny248.out] at ho4)); have HO250 := am_ (Kd.R_lower ho4 (below_size bel_)); replace BK247 := am_ (blk_below (g := gb247) (o := .cells #[.int .i64 4, .int .i64 2, .string (⟨#[97]⟩ : ByteArray)] 26 (0, 0)) (bch_) hb); replace HB := am_ (below_step bel_ hb); clear hb ho4; obtain ⟨Ao5, co5, eo5⟩ := Kd.R_slice HO250.out; subst eo5))
 go_loopg [17] k (fun kq v17 w' => ∃ (x17_1 : Int), v17 = .int .i64 x17_1 ∧ Aside0 (parterrelaw07_lives.l0 kq y248 (y248.length : Int) x17_1 4 2 (⟨#[97]⟩ : ByteArray) = some r) ∧ Aside0 (kq ≤ k) ∧ Aside0 (Kd.R Kd.string 9 w' w.heap.size (fun _ => True) (.slice Ao5 y248.length co5) y248) ∧ Aside0 (w'.heap[gb247]? = some (.cells #[.int .i64 4, .int .i64 2, .string (⟨#[97]⟩ : ByteArray)] 26 (0, 0))) ∧ Aside0 (Below w.heap.size w w'))
 case atStart => exact ⟨(0), rfs_, H', ⟨Nat.le_refl _⟩, ⟨by (with_reducible repeat (first | apply Kd.R_alloc | apply Kd.R_drewN | apply Kd.R_drew)); exact HO250.out⟩, ⟨blk_⟩, ⟨bel_⟩⟩
 case round =>
  clear H'; try clear hcz2_0
  try clear hcz2_1
  try clear hcz2_2
  try clear hfz2_0
  try clear hfz2_1
  try clear hfz2_2
  obtain ⟨x17_1, rfl, HA, HK1, HO_15, BK247, HB⟩ := hrel
  cases gk with
  | zero => exact absurd HA.out (by simp [parterrelaw07_lives.l0])
  | succ k1 =>
   have H := HA.out; clear HA; simp only [parterrelaw07_lives.l0] at H; by_cases c6 : x17_1 < (y248.length : Int)
   ·rw [if_pos c6] at H; have c6b0 : decide (x17_1 < (y248.length : Int)) = true := dt_ c6; clear c6; by_cases c7 : 0 ≤ x17_1
    ·rw [if_pos c7] at H; have c7b0 : decide (0 ≤ x17_1) = true := dt_ c7; clear c7; by_cases c8 : x17_1 < (y248.length : Int)
     ·rw [if_pos c8] at H; have c8b0 : decide (x17_1 < (y248.length : Int)) = true := dt_ c8; clear c8; replace H := bs_ H; obtain ⟨t252, A90, H⟩ := H; try dsimp only at H
      have A9 := am_ A90; clear A90; replace H := bs_ H; obtain ⟨⟨t255, t256, t257, t258, t259⟩, A100, H⟩ := H; try dsimp only at H
      have A10 := am_ A100; clear A100; by_cases c11 : t259 = 0
      ·rw [if_pos c11] at H; have c11b0 : (t259 == 0) = true := beq_iff_eq.mpr c11; have c11b1 : (t259 != 0) = false := bne_eq_false_iff_eq.mpr c11; clear c11; by_cases c12 : (!(t255 == 4) || (!(t256 == 2) || (!(t257.toList == (⟨#[97]⟩ : ByteArray).toList)))) = true
       ·rw [if_pos c12] at H; exact absurd H (by simp)
       rw [if_neg c12] at H; have c12b0 : (!(t255 == 4) || (!(t256 == 2) || (!(t257.toList == ([97] : List UInt8))))) = false := by (try rw [show (⟨#[97]⟩ : ByteArray).toList = ([97] : List UInt8) by rw [ByteArray.toList_eq]] at c12); simpa using c12
       clear c12; have H' := am_ H; clear H; have p251 : 0 ≤ (x17_1 : Int) := od_ (by first | (with_reducible assumption) | assumption); have q251 : x17_1 < (y248.length : Int) := od_ (by first | (with_reducible assumption) | assumption); obtain ⟨ad251, e251, hx251_0⟩ := Kd.at_string (Kd.R_reads' HO_15.out).2.2 x17_1 p251 q251; cases e251
       replace p251 := eq_true p251; replace q251 := eq_true q251; go_wp2_with (first | ((with_reducible refine gate_callee (f := 12) rfl ?_); refine goesL_ (some 23) rfl rfl Try.func12 (by kernel_rfl) rfl #[.string (rdOf ByteArray.empty y248 x17_1)] rfl goa_ ?_; (with_reducible refine (parterrelaw07_words.calls k1 (rdOf ByteArray.empty y248 x17_1) t252 _ A9.out).mono ?_); rintro e w13 ⟨v253, rfl, ho0, hb⟩; refine ⟨_, rfl, ?_⟩; have HO254 := am_ (Kd.R_lower ho0 (below_size bel_)); replace HO_15 := am_ (Kd.R_below (row_ HO_15) hb); replace BK247 := blb_ BK247 hb; replace HB := am_ (below_step bel_ hb); (try clear hb); (try clear hb2); (try clear hk); (try clear hi); (try clear ho0); obtain ⟨Ao14, co14, eo14⟩ := Kd.R_slice HO254.out; subst eo14) | ((with_reducible refine gate_callee (f := 6) rfl ?_); refine goesL_ (some 24) rfl rfl Try.func6 (by kernel_rfl) rfl #[.slice Ao14 t252.length co14, .int .i64 0] rfl goa_ ?_; (with_reducible refine (line_Read.calls k1 _ _ t252 0 t255 t256 t257 t258 t259 _ ?side1 ?side2 A10.out).mono ?_); (case side1 => repeat (first | exact (Kd.R_reads' HO254.out).2.2 | (with_reducible refine Kd.C_alloc ?_ _) | (with_reducible refine Kd.C_drewN ?_ _) | (with_reducible refine Kd.C_drew ?_))); (case side2 => exact (Kd.R_reads' HO254.out).2.1); rintro e w15 ⟨rfl, hb⟩; refine ⟨_, rfl, ?_⟩; replace HO_15 := am_ (Kd.R_below (row_ HO_15) hb); replace HO254 := am_ (Kd.R_below (row_ HO254) hb); replace BK247 := blb_ BK247 hb; replace HB := am_ (below_step bel_ hb); clear hb) | ((with_reducible refine gate_dst (N := 4) rfl ?_); refine box_event ?hg (N := 4) ?hd (cs := #[.int .i64 0, .int .i64 0, .string (⟨#[]⟩ : ByteArray)]) (t := 26) ?hr ?_; (case hd => rfl); (case hg => rfl); (case hr => first | (go_simp; done) | (go_simp; rfl)); intro gb260 hg w16 hbox hb; have BK260 := am_ (hbox); have GW260 := am_ ((bsz_ hg : w.heap.size ≤ gb260)); have GE260 := am_ ((bsz_ hg : w.heap.size ≤ gb260)); have NB247_260 := am_ (bne_ BK247 hg : gb247 ≠ gb260); have NB260_247 := am_ (bng_ BK247 hg : gb260 ≠ gb247); replace HO_15 := am_ (Kd.R_below (row_ HO_15) hb); replace HO254 := am_ (Kd.R_below (row_ HO254) hb); replace BK247 := blb_ BK247 hb; replace HB := am_ (below_step bel_ hb); clear hb hbox hg; have hnb17 := NB260_247.out; have hnc17 := NB247_260.out; obtain ⟨hcz18_0, hcz18_1, hcz18_2⟩ := c3_ BK260; obtain ⟨hfz18_0, hfz18_1, hfz18_2⟩ := f3_ BK260; obtain ⟨hcz19_0, hcz19_1, hcz19_2⟩ := c3_ BK247; obtain ⟨hfz19_0, hfz19_1, hfz19_2⟩ := f3_ BK247))
       go_roundg k1
       case measure => have := HK1.out; omega
       case rel => exact ⟨(wrap64 (x17_1 + 1)), rfs_, H', ⟨by have := HK1.out; omega⟩, ⟨by (with_reducible repeat (first | apply Kd.R_alloc | apply Kd.R_drewN | apply Kd.R_drew)); exact Kd.R_mono (Kd.R_far (p := ⟨gb260, 2, none⟩) (Kd.R_far (p := ⟨gb260, 1, none⟩) (Kd.R_far (p := ⟨gb260, 0, none⟩) (Kd.R_types HO_15.out BK260.out (by decide)) (fun _ hk => hk.2) (.int .i64 t255)) (fun _ hk => hk.2) (.int .i64 t256)) (fun _ hk => hk.2) (.string t257)) (fun _ hk => trivial)⟩, ⟨bch_⟩, ⟨bel_⟩⟩
      rw [if_neg c11] at H; exact absurd H (by simp)
     rw [if_neg c8] at H; exact absurd H (by simp)
    rw [if_neg c7] at H; exact absurd H (by simp)
   rw [if_neg c6] at H; have c6b0 : decide (x17_1 < (y248.length : Int)) = false := df_ c6; clear c6; replace H := bs_ H; obtain ⟨t261, A200, H⟩ := H; try dsimp only at H
   have A20 := am_ A200; clear A200; replace H := bs_ H; obtain ⟨⟨t264, t265, t266, t267, t268, t269, t270, t271⟩, A210, H⟩ := H; try dsimp only at H
   have A21 := am_ A210; clear A210; replace H := bs_ H; obtain ⟨t274, A220, H⟩ := H; try dsimp only at H
   have A22 := am_ A220; clear A220; replace H := bs_ H; obtain ⟨⟨t277, t278, t279, t280, t281⟩, A230, H⟩ := H; try dsimp only at H
   have A23 := am_ A230; clear A230; by_cases c24 : t271 = 0
   ·rw [if_pos c24] at H; have c24b0 : (t271 == 0) = true := beq_iff_eq.mpr c24; have c24b1 : (t271 != 0) = false := bne_eq_false_iff_eq.mpr c24; clear c24; by_cases c25 : (t264 == t267 && (t265 == t268 && (t266.toList == t269.toList))) = true
    ·rw [if_pos c25] at H; have c25b0 : (t264 == t267 && (t265 == t268 && (t266.toList == t269.toList))) = true := c25; (try (have c25b1 : decide (t264 = t267 && (t265 == t268 && (t266.toList == t269.toList))) = true := by simpa using c25))
     (try (have c25b2 : (t264 == t267 && (t265 == t268 && (t266.toList == t269.toList))) = true := by simpa using c25))
     clear c25; by_cases c26 : t266.toList = ([97] : List UInt8)
     ·rw [if_pos c26] at H; have c26b0 : (t266.toList == ([97] : List UInt8)) = true := beq_iff_eq.mpr c26; have c26b1 : (t266.toList != ([97] : List UInt8)) = false := bne_eq_false_iff_eq.mpr c26; clear c26; obtain rfl := si_ H; go_wp2_with (first | ((with_reducible refine gate_callee (f := 12) rfl ?_); refine goesL_ (some 37) rfl rfl Try.func12 (by kernel_rfl) rfl #[.string (⟨#[97]⟩ : ByteArray)] rfl goa_ ?_; (with_reducible refine (parterrelaw07_words.calls k1 (⟨#[97]⟩ : ByteArray) t261 _ A20.out).mono ?_); rintro e w27 ⟨v262, rfl, ho0, hb⟩; refine ⟨_, rfl, ?_⟩; have HO263 := am_ (Kd.R_lower ho0 (below_size bel_)); replace HO_15 := am_ (Kd.R_below (row_ HO_15) hb); replace BK247 := blb_ BK247 hb; replace HB := am_ (below_step bel_ hb); (try clear hb); (try clear hb2); (try clear hk); (try clear hi); (try clear ho0); obtain ⟨Ao28, co28, eo28⟩ := Kd.R_slice HO263.out; subst eo28) | ((with_reducible refine gate_callee (f := 8) rfl ?_); refine goesL_ (some 38) rfl rfl Try.func8 (by kernel_rfl) rfl #[.slice Ao28 t261.length co28, .int .i64 0] rfl goa_ ?_; (with_reducible refine (line_Pair.calls k1 _ _ t261 0 t264 t265 t266 t267 t268 t269 t270 t271 _ ?side1 ?side2 A21.out).mono ?_); (case side1 => repeat (first | exact (Kd.R_reads' HO263.out).2.2 | (with_reducible refine Kd.C_alloc ?_ _) | (with_reducible refine Kd.C_drewN ?_ _) | (with_reducible refine Kd.C_drew ?_))); (case side2 => exact (Kd.R_reads' HO263.out).2.1); rintro e w29 ⟨rfl, hb⟩; refine ⟨_, rfl, ?_⟩; replace HO_15 := am_ (Kd.R_below (row_ HO_15) hb); replace HO263 := am_ (Kd.R_below (row_ HO263) hb); replace BK247 := blb_ BK247 hb; replace HB := am_ (below_step bel_ hb); clear hb) | ((with_reducible refine gate_dst (N := 7) rfl ?_); refine box_event ?hg (N := 7) ?hd (cs := #[.int .i64 0, .int .i64 0, .string (⟨#[]⟩ : ByteArray)]) (t := 26) ?hr ?_; (case hd => rfl); (case hg => rfl); (case hr => first | (go_simp; done) | (go_simp; rfl)); intro gb272 hg w30 hbox hb; have BK272 := am_ (hbox); have GW272 := am_ ((bsz_ hg : w.heap.size ≤ gb272)); have GE272 := am_ ((bsz_ hg : w.heap.size ≤ gb272)); have NB247_272 := am_ (bne_ BK247 hg : gb247 ≠ gb272); have NB272_247 := am_ (bng_ BK247 hg : gb272 ≠ gb247); replace HO_15 := am_ (Kd.R_below (row_ HO_15) hb); replace HO263 := am_ (Kd.R_below (row_ HO263) hb); replace BK247 := blb_ BK247 hb; replace HB := am_ (below_step bel_ hb); clear hb hbox hg) | ((with_reducible refine gate_dst (N := 8) rfl ?_); refine box_event ?hg (N := 8) ?hd (cs := #[.int .i64 0, .int .i64 0, .string (⟨#[]⟩ : ByteArray)]) (t := 26) ?hr ?_; (case hd => rfl); (case hg => rfl); (case hr => first | (go_simp; done) | (go_simp; rfl)); intro gb273 hg w31 hbox hb; have BK273 := am_ (hbox); have GW273 := am_ ((bsz_ hg : w.heap.size ≤ gb273)); have GE273 := am_ ((bsz_ hg : w.heap.size ≤ gb273)); have NB247_273 := am_ (bne_ BK247 hg : gb247 ≠ gb273); have NB273_247 := am_ (bng_ BK247 hg : gb273 ≠ gb247); have NB272_273 := am_ (bne_ BK272 hg : gb272 ≠ gb273); have NB273_272 := am_ (bng_ BK272 hg : gb273 ≠ gb272); replace HO_15 := am_ (Kd.R_below (row_ HO_15) hb); replace HO263 := am_ (Kd.R_below (row_ HO263) hb); replace BK247 := blb_ BK247 hb; replace BK272 := blb_ BK272 hb; replace HB := am_ (below_step bel_ hb); clear hb hbox hg; have hnb32 := NB272_247.out; have hnc32 := NB247_272.out; have hnb33 := NB272_273.out; have hnc33 := NB273_272.out; obtain ⟨hcz34_0, hcz34_1, hcz34_2⟩ := c3_ BK272; obtain ⟨hfz34_0, hfz34_1, hfz34_2⟩ := f3_ BK272; have hnb35 := NB273_247.out; have hnc35 := NB247_273.out; obtain ⟨hcz36_0, hcz36_1, hcz36_2⟩ := c3_ BK273; obtain ⟨hfz36_0, hfz36_1, hfz36_2⟩ := f3_ BK273) | ((with_reducible refine gate_callee (f := 12) rfl ?_); refine goesL_ (some 44) rfl rfl Try.func12 (by kernel_rfl) rfl #[.string (⟨#[48]⟩ : ByteArray)] rfl goa_ ?_; (with_reducible refine (parterrelaw07_words.calls k1 (⟨#[48]⟩ : ByteArray) t274 _ A22.out).mono ?_); rintro e w37 ⟨v275, rfl, ho0, hb⟩; refine ⟨_, rfl, ?_⟩; have HO276 := am_ (Kd.R_lower (Kd.R_new' ho0 (Kd.R_lt (by (with_reducible repeat (first | apply Kd.R_alloc | apply Kd.R_drewN | apply Kd.R_drew)); exact (Kd.R_mono (Kd.R_mono (Kd.R_far (p := ⟨gb273, 2, none⟩) (Kd.R_far (p := ⟨gb273, 1, none⟩) (Kd.R_far (p := ⟨gb273, 0, none⟩) (Kd.R_far (p := ⟨gb272, 2, none⟩) (Kd.R_far (p := ⟨gb272, 1, none⟩) (Kd.R_far (p := ⟨gb272, 0, none⟩) (Kd.R_types (Kd.R_types HO263.out BK272.out (by decide)) BK273.out (by decide)) (fun _ hk => hk.1.2) (.int .i64 t264)) (fun _ hk => hk.1.2) (.int .i64 t265)) (fun _ hk => hk.1.2) (.string t266)) (fun _ hk => hk.2) (.int .i64 t267)) (fun _ hk => hk.2) (.int .i64 t268)) (fun _ hk => hk.2) (.string t269)) (fun _ h_ => h_.1)) (fun _ h_ => h_.1))))) (below_size bel_)); replace HO_15 := am_ (Kd.R_below (by (with_reducible repeat (first | apply Kd.R_alloc | apply Kd.R_drewN | apply Kd.R_drew)); exact (Kd.R_mono (Kd.R_mono (Kd.R_far (p := ⟨gb273, 2, none⟩) (Kd.R_far (p := ⟨gb273, 1, none⟩) (Kd.R_far (p := ⟨gb273, 0, none⟩) (Kd.R_far (p := ⟨gb272, 2, none⟩) (Kd.R_far (p := ⟨gb272, 1, none⟩) (Kd.R_far (p := ⟨gb272, 0, none⟩) (Kd.R_types (Kd.R_types HO_15.out BK272.out (by decide)) BK273.out (by decide)) (fun _ hk => hk.1.2) (.int .i64 t264)) (fun _ hk => hk.1.2) (.int .i64 t265)) (fun _ hk => hk.1.2) (.string t266)) (fun _ hk => hk.2) (.int .i64 t267)) (fun _ hk => hk.2) (.int .i64 t268)) (fun _ hk => hk.2) (.string t269)) (fun _ h_ => h_.1)) (fun _ h_ => h_.1))) hb); replace HO263 := am_ (Kd.R_elder' (by (with_reducible repeat (first | apply Kd.R_alloc | apply Kd.R_drewN | apply Kd.R_drew)); exact (Kd.R_mono (Kd.R_mono (Kd.R_far (p := ⟨gb273, 2, none⟩) (Kd.R_far (p := ⟨gb273, 1, none⟩) (Kd.R_far (p := ⟨gb273, 0, none⟩) (Kd.R_far (p := ⟨gb272, 2, none⟩) (Kd.R_far (p := ⟨gb272, 1, none⟩) (Kd.R_far (p := ⟨gb272, 0, none⟩) (Kd.R_types (Kd.R_types HO263.out BK272.out (by decide)) BK273.out (by decide)) (fun _ hk => hk.1.2) (.int .i64 t264)) (fun _ hk => hk.1.2) (.int .i64 t265)) (fun _ hk => hk.1.2) (.string t266)) (fun _ hk => hk.2) (.int .i64 t267)) (fun _ hk => hk.2) (.int .i64 t268)) (fun _ hk => hk.2) (.string t269)) (fun _ h_ => h_.1)) (fun _ h_ => h_.1))) (Kd.R_base ho0) hb); replace BK247 := am_ (blk_below (g := gb247) (o := .cells #[.int .i64 4, .int .i64 2, .string (⟨#[97]⟩ : ByteArray)] 26 (0, 0)) (bch_) hb); replace BK272 := am_ (blk_below (g := gb272) (o := .cells #[.int .i64 t264, .int .i64 t265, .string t266] 26 (0, 0)) (bch_) hb); replace BK273 := am_ (blk_below (g := gb273) (o := .cells #[.int .i64 t267, .int .i64 t268, .string t269] 26 (0, 0)) (bch_) hb); replace HB := am_ (below_step bel_ hb); (try clear hb); (try clear hb2); (try clear hk); (try clear hi); (try clear ho0); obtain ⟨Ao38, co38, eo38⟩ := Kd.R_slice HO276.out; subst eo38) | ((with_reducible refine gate_callee (f := 6) rfl ?_); refine goesL_ (some 45) rfl rfl Try.func6 (by kernel_rfl) rfl #[.slice Ao38 t274.length co38, .int .i64 0] rfl goa_ ?_; (with_reducible refine (line_Read.calls k1 _ _ t274 0 t277 t278 t279 t280 t281 _ ?side1 ?side2 A23.out).mono ?_); (case side1 => repeat (first | exact (Kd.R_reads' HO276.out).2.2 | (with_reducible refine Kd.C_alloc ?_ _) | (with_reducible refine Kd.C_drewN ?_ _) | (with_reducible refine Kd.C_drew ?_))); (case side2 => exact (Kd.R_reads' HO276.out).2.1); rintro e w39 ⟨rfl, hb⟩; refine ⟨_, rfl, ?_⟩; replace HO_15 := am_ (Kd.R_below (row_ HO_15) hb); replace HO263 := am_ (Kd.R_below (row_ HO263) hb); replace HO276 := am_ (Kd.R_below (row_ HO276) hb); replace BK247 := blb_ BK247 hb; replace BK272 := blb_ BK272 hb; replace BK273 := blb_ BK273 hb; replace HB := am_ (below_step bel_ hb); clear hb) | ((with_reducible refine gate_dst (N := 11) rfl ?_); refine box_event ?hg (N := 11) ?hd (cs := #[.int .i64 0, .int .i64 0, .string (⟨#[]⟩ : ByteArray)]) (t := 26) ?hr ?_; (case hd => rfl); (case hg => rfl); (case hr => first | (go_simp; done) | (go_simp; rfl)); intro gb282 hg w40 hbox hb; have BK282 := am_ (hbox); have GW282 := am_ ((bsz_ hg : w.heap.size ≤ gb282)); have GE282 := am_ ((bsz_ hg : w.heap.size ≤ gb282)); have NB247_282 := am_ (bne_ BK247 hg : gb247 ≠ gb282); have NB282_247 := am_ (bng_ BK247 hg : gb282 ≠ gb247); have NB272_282 := am_ (bne_ BK272 hg : gb272 ≠ gb282); have NB282_272 := am_ (bng_ BK272 hg : gb282 ≠ gb272); have NB273_282 := am_ (bne_ BK273 hg : gb273 ≠ gb282); have NB282_273 := am_ (bng_ BK273 hg : gb282 ≠ gb273); replace HO_15 := am_ (Kd.R_below (row_ HO_15) hb); replace HO263 := am_ (Kd.R_below (row_ HO263) hb); replace HO276 := am_ (Kd.R_below (row_ HO276) hb); replace BK247 := blb_ BK247 hb; replace BK272 := blb_ BK272 hb; replace BK273 := blb_ BK273 hb; replace HB := am_ (below_step bel_ hb); clear hb hbox hg; have hnb41 := NB282_247.out; have hnc41 := NB247_282.out; have hnb42 := NB282_272.out; have hnc42 := NB272_282.out; have hnb43 := NB282_273.out; have hnc43 := NB273_282.out; obtain ⟨hcz44_0, hcz44_1, hcz44_2⟩ := c3_ BK282; obtain ⟨hfz44_0, hfz44_1, hfz44_2⟩ := f3_ BK282; obtain ⟨hcz45_0, hcz45_1, hcz45_2⟩ := c3_ BK272; obtain ⟨hfz45_0, hfz45_1, hfz45_2⟩ := f3_ BK272; obtain ⟨hcz46_0, hcz46_1, hcz46_2⟩ := c3_ BK273; obtain ⟨hfz46_0, hfz46_1, hfz46_2⟩ := f3_ BK273))
      go_ret
      exact ⟨rsl_, bel_⟩
     rw [if_neg c26] at H; exact absurd H (by simp)
    rw [if_neg c25] at H; exact absurd H (by simp)
   rw [if_neg c24] at H; exact absurd H (by simp)

/-! ### r05_Word: function 33 -/
def r05_Word.f (l0 : List (S43)) (a1 : Int) : Option (Int × Int × ByteArray × ByteArray) := if a1 < 0 then (some (8, 0, (⟨#[]⟩ : ByteArray), (⟨#[]⟩ : ByteArray))) else (if a1 ≥ (l0.length : Int) then (some (8, 0, (⟨#[]⟩ : ByteArray), (⟨#[]⟩ : ByteArray))) else (if 0 ≤ a1 then (if a1 < (l0.length : Int) then (some ((rd_T43 l0 a1).f0, (rd_T43 l0 a1).f1, (rd_T43 l0 a1).f2, (rd_T43 l0 a1).f3)) else (none)) else (none)))
set_option maxHeartbeats 8000000 in
theorem r05_Word.calls (A0 : Option Addr) (c0 : Nat) (l0 : List (S43)) (a1 : Int) (r1 : Int) (r2 : Int) (r3 : ByteArray) (r4 : ByteArray) (w : World) (hr0 : Kd.C k43 w A0 l0.length l0) (hc0 : l0.length ≤ c0) (h : r05_Word.f l0 a1 = some (r1, r2, r3, r4)) :
  Calls Try.prog 33 #[.slice A0 l0.length c0, .int .i64 a1] w fun e w' => e = .returned (.agg #[.int .i64 r1, .int .i64 r2, .string r3, .string r4]) ∧ Below w.heap.size w w' := by
 have hu43 := Try.underlying43; have HR0 := am_ hr0; have HC0 := am_ hc0; clear hr0 hc0; have HB := am_ (Below.refl w.heap.size w); have H : (if a1 < 0 then (some (8, 0, (⟨#[]⟩ : ByteArray), (⟨#[]⟩ : ByteArray))) else (if a1 ≥ (l0.length : Int) then (some (8, 0, (⟨#[]⟩ : ByteArray), (⟨#[]⟩ : ByteArray))) else (if 0 ≤ a1 then (if a1 < (l0.length : Int) then (some ((rd_T43 l0 a1).f0, (rd_T43 l0 a1).f1, (rd_T43 l0 a1).f2, (rd_T43 l0 a1).f3)) else (none)) else (none)))) = some (r1, r2, r3, r4) := h; clear h; by_cases c3 : a1 < 0
 ·rw [if_pos c3] at H; have c3b0 : decide (a1 < 0) = true := dt_ c3; clear c3; simp only [Option.some.injEq, Prod.mk.injEq] at H; obtain ⟨rfl, rfl, rfl, rfl⟩ := H; go_enter Try.func33, Try.ntmps33
  go_wp2_with (first | ((with_reducible refine gate_dst (N := 4) rfl ?_); (try (refine gate_guard (by rfl) ?_; dsimp only)); refine box_event ?hg (N := 4) ?hd (cs := #[.int .i64 0, .int .i64 0, .string (⟨#[]⟩ : ByteArray), .string (⟨#[]⟩ : ByteArray)]) (t := 43) ?hr ?_; (case hd => rfl); (case hg => rfl); (case hr => first | (go_simp; done) | (go_simp; rfl)); intro gb283 hg w4 hbox hb; have BK283 := am_ (hbox); have GW283 := am_ ((bsz_ hg : w.heap.size ≤ gb283)); have GE283 := am_ ((bsz_ hg : w.heap.size ≤ gb283)); replace HB := am_ (below_step bel_ hb); clear hb hbox hg; obtain ⟨hcz5_0, hcz5_1, hcz5_2, hcz5_3⟩ := c4_ BK283; obtain ⟨hfz5_0, hfz5_1, hfz5_2, hfz5_3⟩ := f4_ BK283))
  refine bodyPost_ret (results_cell_row rfl _ _ gb283 43 #[.int .i64 8, .int .i64 0, .string (⟨#[]⟩ : ByteArray), .string (⟨#[]⟩ : ByteArray)] (0, 0) _ rfl (bch_) Try.underlying43 rfl (by kernel_rfl)) rfl ?_
  exact ⟨rsl_, bel_⟩
 rw [if_neg c3] at H; have c3b0 : decide (a1 < 0) = false := df_ c3; clear c3; by_cases c6 : a1 ≥ (l0.length : Int)
 ·rw [if_pos c6] at H; have c6b0 : decide ((l0.length : Int) ≤ a1) = true := dt_ c6; clear c6; simp only [Option.some.injEq, Prod.mk.injEq] at H; obtain ⟨rfl, rfl, rfl, rfl⟩ := H; go_enter Try.func33, Try.ntmps33
  go_wp2_with (first | ((with_reducible refine gate_dst (N := 4) rfl ?_); (try (refine gate_guard (by rfl) ?_; dsimp only)); refine box_event ?hg (N := 4) ?hd (cs := #[.int .i64 0, .int .i64 0, .string (⟨#[]⟩ : ByteArray), .string (⟨#[]⟩ : ByteArray)]) (t := 43) ?hr ?_; (case hd => rfl); (case hg => rfl); (case hr => first | (go_simp; done) | (go_simp; rfl)); intro gb283 hg w7 hbox hb; have BK283 := am_ (hbox); have GW283 := am_ ((bsz_ hg : w.heap.size ≤ gb283)); have GE283 := am_ ((bsz_ hg : w.heap.size ≤ gb283)); replace HB := am_ (below_step bel_ hb); clear hb hbox hg; obtain ⟨hcz8_0, hcz8_1, hcz8_2, hcz8_3⟩ := c4_ BK283; obtain ⟨hfz8_0, hfz8_1, hfz8_2, hfz8_3⟩ := f4_ BK283))
  refine bodyPost_ret (results_cell_row rfl _ _ gb283 43 #[.int .i64 8, .int .i64 0, .string (⟨#[]⟩ : ByteArray), .string (⟨#[]⟩ : ByteArray)] (0, 0) _ rfl (bch_) Try.underlying43 rfl (by kernel_rfl)) rfl ?_
  exact ⟨rsl_, bel_⟩
 rw [if_neg c6] at H; have c6b0 : decide ((l0.length : Int) ≤ a1) = false := df_ c6; clear c6; by_cases c9 : 0 ≤ a1
 ·rw [if_pos c9] at H; have c9b0 : decide (0 ≤ a1) = true := dt_ c9; clear c9; by_cases c10 : a1 < (l0.length : Int)
  ·rw [if_pos c10] at H; have c10b0 : decide (a1 < (l0.length : Int)) = true := dt_ c10; clear c10; simp only [Option.some.injEq, Prod.mk.injEq] at H; obtain ⟨rfl, rfl, rfl, rfl⟩ := H; go_enter Try.func33, Try.ntmps33
   go_wp2_with (first | ((with_reducible refine gate_dst (N := 4) rfl ?_); (try (refine gate_guard (by rfl) ?_; dsimp only)); refine box_event ?hg (N := 4) ?hd (cs := #[.int .i64 0, .int .i64 0, .string (⟨#[]⟩ : ByteArray), .string (⟨#[]⟩ : ByteArray)]) (t := 43) ?hr ?_; (case hd => rfl); (case hg => rfl); (case hr => first | (go_simp; done) | (go_simp; rfl)); intro gb283 hg w11 hbox hb; have BK283 := am_ (hbox); have GW283 := am_ ((bsz_ hg : w.heap.size ≤ gb283)); have GE283 := am_ ((bsz_ hg : w.heap.size ≤ gb283)); replace HB := am_ (below_step bel_ hb); clear hb hbox hg; have p284 : 0 ≤ (a1 : Int) := od_ (by first | (with_reducible assumption) | assumption); have q284 : a1 < (l0.length : Int) := od_ (by first | (with_reducible assumption) | assumption); obtain ⟨ad284, e284, hx284_0, hx284_1, hx284_2, hx284_3⟩ := at_T43 HR0.out a1 p284 q284; cases e284; replace hx284_0 := (HB.out.cell (World.block_lt_of_cell? w _ hx284_0)).trans hx284_0; replace hx284_1 := (HB.out.cell (World.block_lt_of_cell? w _ hx284_1)).trans hx284_1; replace hx284_2 := (HB.out.cell (World.block_lt_of_cell? w _ hx284_2)).trans hx284_2; replace hx284_3 := (HB.out.cell (World.block_lt_of_cell? w _ hx284_3)).trans hx284_3; replace p284 := eq_true p284; replace q284 := eq_true q284; obtain ⟨hcz12_0, hcz12_1, hcz12_2, hcz12_3⟩ := c4_ BK283; obtain ⟨hfz12_0, hfz12_1, hfz12_2, hfz12_3⟩ := f4_ BK283))
   refine bodyPost_ret (results_cell_row rfl _ _ gb283 43 #[.int .i64 ((rd_T43 l0 a1).f0), .int .i64 ((rd_T43 l0 a1).f1), .string ((rd_T43 l0 a1).f2), .string ((rd_T43 l0 a1).f3)] (0, 0) _ rfl (bch_) Try.underlying43 rfl (by kernel_rfl)) rfl ?_
   exact ⟨rsl_, bel_⟩
  rw [if_neg c10] at H; exact absurd H (by simp)
 rw [if_neg c9] at H; exact absurd H (by simp)

/-! ### r04_Lower: function 46 -/
def r04_Lower.l0 : Nat → ByteArray → ByteArray → Int → Option (ByteArray)
 | 0, _, _, _ => none
 | k + 1, x0, x3, x4 => if x4 < (x0.size : Int) then (if 0 ≤ x4 then (if (bt x0 x4) ≥ 65 then (if (bt x0 x4) ≤ 90 then ((some (([((((bt x0 x4) - 65) % 256) + 97) % 256] : List Int) : List Int)).bind fun y285 => (if x3.size + (strOfNums y285).size ≤ 9223372036854775807 then (r04_Lower.l0 k x0 (x3 ++ (strOfNums y285)) (wrap64 (x4 + 1))) else (none))) else ((some (([bt x0 x4] : List Int) : List Int)).bind fun y288 => (if x3.size + (strOfNums y288).size ≤ 9223372036854775807 then (r04_Lower.l0 k x0 (x3 ++ (strOfNums y288)) (wrap64 (x4 + 1))) else (none)))) else ((some (([bt x0 x4] : List Int) : List Int)).bind fun y291 => (if x3.size + (strOfNums y291).size ≤ 9223372036854775807 then (r04_Lower.l0 k x0 (x3 ++ (strOfNums y291)) (wrap64 (x4 + 1))) else (none)))) else (none)) else (some x3)
def r04_Lower.f (k : Nat) (a0 : ByteArray) : Option (ByteArray) := r04_Lower.l0 k a0 (⟨#[]⟩ : ByteArray) 0
theorem r04_Lower.mono_l : ∀ k, (∀ y0 y1 y2, LeO (r04_Lower.l0 k y0 y1 y2) (r04_Lower.l0 (k + 1) y0 y1 y2))
 | 0 => fun _ _ _ r h => by simp [r04_Lower.l0] at h
 | k + 1 => by
  have ih0 := r04_Lower.mono_l k; intro y0 y1 y2; unfold r04_Lower.l0; repeat' first
  | (with_reducible exact ih0 _ _ _)
  | (with_reducible first | exact LeO.refl _ | exact LeO.none _ | refine LeO.ite ?_ ?_ | refine LeO.bind ?_ (fun _ => ?_))
theorem r04_Lower.mono : ∀ a0 k, LeO (r04_Lower.f k a0) (r04_Lower.f (k + 1) a0) := by
 intro a0 k; have ih0 := r04_Lower.mono_l k; unfold r04_Lower.f; repeat' first
   | (with_reducible exact ih0 _ _ _)
   | (with_reducible first | exact LeO.refl _ | exact LeO.none _ | refine LeO.ite ?_ ?_ | refine LeO.bind ?_ (fun _ => ?_))
set_option maxHeartbeats 8000000 in
theorem r04_Lower.calls (k : Nat) (a0 : ByteArray) (r : ByteArray) (w : World) (h : r04_Lower.f k a0 = some r) :
  Calls Try.prog 46 #[.string a0] w fun e w' => e = .returned (.string r) ∧ Below w.heap.size w w' := by
 have HB := am_ (Below.refl w.heap.size w); have H : (r04_Lower.l0 k a0 (⟨#[]⟩ : ByteArray) 0) = some r := h; clear h; have H' := am_ H; clear H; go_enter Try.func46, Try.ntmps46
 go_wp2; go_loopg [3, 4] k (fun kq v3 v4 w' => ∃ (x3_1 : ByteArray) (x4_1 : Int), v3 = .string x3_1 ∧ v4 = .int .i64 x4_1 ∧ Aside0 (r04_Lower.l0 kq a0 x3_1 x4_1 = some r) ∧ Aside0 (kq ≤ k) ∧ Aside0 (Below w.heap.size w w'))
 case atStart => exact ⟨((⟨#[]⟩ : ByteArray)), (0), rfs_, rfs_, H', ⟨Nat.le_refl _⟩, ⟨bel_⟩⟩
 case round =>
  clear H'; obtain ⟨x3_1, x4_1, rfl, rfl, HA, HK1, HB⟩ := hrel
  cases gk with
  | zero => exact absurd HA.out (by simp [r04_Lower.l0])
  | succ k1 =>
   have H := HA.out; clear HA; simp only [r04_Lower.l0] at H; by_cases c2 : x4_1 < (a0.size : Int)
   ·rw [if_pos c2] at H; have c2b0 : decide (x4_1 < (a0.size : Int)) = true := dt_ c2; clear c2; by_cases c3 : 0 ≤ x4_1
    ·rw [if_pos c3] at H; have c3b0 : decide (0 ≤ x4_1) = true := dt_ c3; clear c3; by_cases c5 : (bt a0 x4_1) ≥ 65
     ·rw [if_pos c5] at H; have c5b0 : decide (65 ≤ (bt a0 x4_1)) = true := dt_ c5; clear c5; by_cases c6 : (bt a0 x4_1) ≤ 90
      ·rw [if_pos c6] at H; have c6b0 : decide ((bt a0 x4_1) ≤ 90) = true := dt_ c6; clear c6; obtain ⟨y285, hy285⟩ : ∃ y_ : List Int, y_ = (([((((bt a0 x4_1) - 65) % 256) + 97) % 256] : List Int)) := ⟨_, rfl⟩
       replace H : (if x3_1.size + (strOfNums y285).size ≤ 9223372036854775807 then (r04_Lower.l0 k1 a0 (x3_1 ++ (strOfNums y285)) (wrap64 (x4_1 + 1))) else (none)) = some r := by first | (rw [hy285]; with_reducible exact H) | (have H2_ := (Option.bind_some _ _).symm.trans H; rw [hy285]; with_reducible exact H2_) | (have H2_ := (Option.bind_some _ _).symm.trans H; with_reducible exact H2_) | with_reducible exact H | (rw [hy285]; exact H) | exact H
       have Ny285 := am_ hy285; clear hy285; by_cases c7 : x3_1.size + (strOfNums y285).size ≤ 9223372036854775807
       ·rw [if_pos c7] at H; have c7b0 := eq_true c7; have c7b1 : decide (x3_1.size + (strOfNums y285).size ≤ 9223372036854775807) = true := dt_ c7; try have c7b2 : (9223372036854775807 < x3_1.size + (strOfNums y285).size) = False := eq_false (Nat.not_lt.2 c7)
        have H' := am_ H; clear H; have p4 : 0 ≤ (x4_1 : Int) := od_ (by first | (with_reducible assumption) | assumption); have q4 : x4_1 < (a0.size : Int) := od_ (by first | (with_reducible assumption) | assumption); have hx4 := bt_at a0 x4_1; replace p4 := eq_true p4; replace q4 := eq_true q4; go_wp2_with (first | ((with_reducible refine gate_dst (N := 26) rfl ?_); refine Kd.R_lit (Kd.int .u8) _ 5 ?hg (N := 26) ?hd (xs := ([((((bt a0 x4_1) - 65) % 256) + 97) % 256] : List Int)) (inner := [.int .u8 (((((bt a0 x4_1) - 65) % 256) + 97) % 256)]) (ok := fun _ => True) (okp := fun _ => True) ?hr ?hp (fun _ hk => hk) trivial (Below.refl _ _) (Nat.le_refl _) (by simp) ?_; (case hd => rfl); (case hg => rfl); (case hr => first | (go_simp; done) | (go_simp; rfl)); (case hp => exact (Reps.one (show Kd.M (Kd.int .u8) _ _ _ (((((bt a0 x4_1) - 65) % 256) + 97) % 256) [.int .u8 (((((bt a0 x4_1) - 65) % 256) + 97) % 256)] from rfl) (Reps.none _ _))); intro v286 w8 ho9 hb hg_ hnew_; clear hg_ hnew_; (first | rw [← Ny285.out] at ho9 | (simp only [Int.reduceToNat] at ho9; rw [← Ny285.out] at ho9)); have HO287 := am_ (Kd.R_lower ho9 (below_size bel_)); replace HB := am_ (below_step bel_ hb); clear hb ho9; have hcv10 := own_string (P := Try.prog) Try.underlying65 Try.underlying5 Try.underlying9 (Kd.own_of_R HO287.out)))
        go_roundg k1
        case measure => have := HK1.out; omega
        case rel => exact ⟨(x3_1 ++ (strOfNums y285)), (wrap64 (x4_1 + 1)), rfs_, rfs_, H', ⟨by have := HK1.out; omega⟩, ⟨bel_⟩⟩
       rw [if_neg c7] at H; exact absurd H (by simp)
      rw [if_neg c6] at H; have c6b0 : decide ((bt a0 x4_1) ≤ 90) = false := df_ c6; clear c6; obtain ⟨y288, hy288⟩ : ∃ y_ : List Int, y_ = (([bt a0 x4_1] : List Int)) := ⟨_, rfl⟩
      replace H : (if x3_1.size + (strOfNums y288).size ≤ 9223372036854775807 then (r04_Lower.l0 k1 a0 (x3_1 ++ (strOfNums y288)) (wrap64 (x4_1 + 1))) else (none)) = some r := by first | (rw [hy288]; with_reducible exact H) | (have H2_ := (Option.bind_some _ _).symm.trans H; rw [hy288]; with_reducible exact H2_) | (have H2_ := (Option.bind_some _ _).symm.trans H; with_reducible exact H2_) | with_reducible exact H | (rw [hy288]; exact H) | exact H
      have Ny288 := am_ hy288; clear hy288; by_cases c11 : x3_1.size + (strOfNums y288).size ≤ 9223372036854775807
      ·rw [if_pos c11] at H; have c11b0 := eq_true c11; have c11b1 : decide (x3_1.size + (strOfNums y288).size ≤ 9223372036854775807) = true := dt_ c11; try have c11b2 : (9223372036854775807 < x3_1.size + (strOfNums y288).size) = False := eq_false (Nat.not_lt.2 c11)
       have H' := am_ H; clear H; have p4 : 0 ≤ (x4_1 : Int) := od_ (by first | (with_reducible assumption) | assumption); have q4 : x4_1 < (a0.size : Int) := od_ (by first | (with_reducible assumption) | assumption); have hx4 := bt_at a0 x4_1; replace p4 := eq_true p4; replace q4 := eq_true q4; go_wp2_with (first | ((with_reducible refine gate_dst (N := 26) rfl ?_); refine Kd.R_lit (Kd.int .u8) _ 5 ?hg (N := 26) ?hd (xs := ([bt a0 x4_1] : List Int)) (inner := [.int .u8 (bt a0 x4_1)]) (ok := fun _ => True) (okp := fun _ => True) ?hr ?hp (fun _ hk => hk) trivial (Below.refl _ _) (Nat.le_refl _) (by simp) ?_; (case hd => rfl); (case hg => rfl); (case hr => first | (go_simp; done) | (go_simp; rfl)); (case hp => exact (Reps.one (show Kd.M (Kd.int .u8) _ _ _ (bt a0 x4_1) [.int .u8 (bt a0 x4_1)] from rfl) (Reps.none _ _))); intro v289 w12 ho13 hb hg_ hnew_; clear hg_ hnew_; (first | rw [← Ny288.out] at ho13 | (simp only [Int.reduceToNat] at ho13; rw [← Ny288.out] at ho13)); have HO290 := am_ (Kd.R_lower ho13 (below_size bel_)); replace HB := am_ (below_step bel_ hb); clear hb ho13; have hcv14 := own_string (P := Try.prog) Try.underlying65 Try.underlying5 Try.underlying9 (Kd.own_of_R HO290.out)))
       go_roundg k1
       case measure => have := HK1.out; omega
       case rel => exact ⟨(x3_1 ++ (strOfNums y288)), (wrap64 (x4_1 + 1)), rfs_, rfs_, H', ⟨by have := HK1.out; omega⟩, ⟨bel_⟩⟩
      rw [if_neg c11] at H; exact absurd H (by simp)
     rw [if_neg c5] at H; have c5b0 : decide (65 ≤ (bt a0 x4_1)) = false := df_ c5; clear c5; obtain ⟨y291, hy291⟩ : ∃ y_ : List Int, y_ = (([bt a0 x4_1] : List Int)) := ⟨_, rfl⟩
     replace H : (if x3_1.size + (strOfNums y291).size ≤ 9223372036854775807 then (r04_Lower.l0 k1 a0 (x3_1 ++ (strOfNums y291)) (wrap64 (x4_1 + 1))) else (none)) = some r := by first | (rw [hy291]; with_reducible exact H) | (have H2_ := (Option.bind_some _ _).symm.trans H; rw [hy291]; with_reducible exact H2_) | (have H2_ := (Option.bind_some _ _).symm.trans H; with_reducible exact H2_) | with_reducible exact H | (rw [hy291]; exact H) | exact H
     have Ny291 := am_ hy291; clear hy291; by_cases c15 : x3_1.size + (strOfNums y291).size ≤ 9223372036854775807
     ·rw [if_pos c15] at H; have c15b0 := eq_true c15; have c15b1 : decide (x3_1.size + (strOfNums y291).size ≤ 9223372036854775807) = true := dt_ c15; try have c15b2 : (9223372036854775807 < x3_1.size + (strOfNums y291).size) = False := eq_false (Nat.not_lt.2 c15)
      have H' := am_ H; clear H; have p4 : 0 ≤ (x4_1 : Int) := od_ (by first | (with_reducible assumption) | assumption); have q4 : x4_1 < (a0.size : Int) := od_ (by first | (with_reducible assumption) | assumption); have hx4 := bt_at a0 x4_1; replace p4 := eq_true p4; replace q4 := eq_true q4; go_wp2_with (first | ((with_reducible refine gate_dst (N := 26) rfl ?_); refine Kd.R_lit (Kd.int .u8) _ 5 ?hg (N := 26) ?hd (xs := ([bt a0 x4_1] : List Int)) (inner := [.int .u8 (bt a0 x4_1)]) (ok := fun _ => True) (okp := fun _ => True) ?hr ?hp (fun _ hk => hk) trivial (Below.refl _ _) (Nat.le_refl _) (by simp) ?_; (case hd => rfl); (case hg => rfl); (case hr => first | (go_simp; done) | (go_simp; rfl)); (case hp => exact (Reps.one (show Kd.M (Kd.int .u8) _ _ _ (bt a0 x4_1) [.int .u8 (bt a0 x4_1)] from rfl) (Reps.none _ _))); intro v292 w16 ho17 hb hg_ hnew_; clear hg_ hnew_; (first | rw [← Ny291.out] at ho17 | (simp only [Int.reduceToNat] at ho17; rw [← Ny291.out] at ho17)); have HO293 := am_ (Kd.R_lower ho17 (below_size bel_)); replace HB := am_ (below_step bel_ hb); clear hb ho17; have hcv18 := own_string (P := Try.prog) Try.underlying65 Try.underlying5 Try.underlying9 (Kd.own_of_R HO293.out)))
      go_roundg k1
      case measure => have := HK1.out; omega
      case rel => exact ⟨(x3_1 ++ (strOfNums y291)), (wrap64 (x4_1 + 1)), rfs_, rfs_, H', ⟨by have := HK1.out; omega⟩, ⟨bel_⟩⟩
     rw [if_neg c15] at H; exact absurd H (by simp)
    rw [if_neg c3] at H; exact absurd H (by simp)
   rw [if_neg c2] at H; have c2b0 : decide (x4_1 < (a0.size : Int)) = false := df_ c2; clear c2; obtain rfl := si_ H; go_wp2; go_ret
   exact ⟨rsl_, bel_⟩


/-! ### r04_Is: function 34 -/
def r04_Is.f (k : Nat) (a0 : ByteArray) (a1 : ByteArray) : Option (Bool) := (r04_Lower.f k a0).bind fun t294 => ((r04_Lower.f k a1).bind fun t295 => (some (t294.toList == t295.toList)))
theorem r04_Is.mono : ∀ a0 a1 k, LeO (r04_Is.f k a0 a1) (r04_Is.f (k + 1) a0 a1) := by
 intro a0 a1 k; unfold r04_Is.f; repeat' first
   | (with_reducible exact r04_Lower.mono _ _)
   | (with_reducible first | exact LeO.refl _ | exact LeO.none _ | refine LeO.ite ?_ ?_ | refine LeO.bind ?_ (fun _ => ?_))
set_option maxHeartbeats 8000000 in
theorem r04_Is.calls (k : Nat) (a0 : ByteArray) (a1 : ByteArray) (r : Bool) (w : World) (h : r04_Is.f k a0 a1 = some r) :
  Calls Try.prog 34 #[.string a0, .string a1] w fun e w' => e = .returned (.bool r) ∧ Below w.heap.size w w' := by
 have HB := am_ (Below.refl w.heap.size w); have H : ((r04_Lower.f k a0).bind fun t294 => ((r04_Lower.f k a1).bind fun t295 => (some (t294.toList == t295.toList)))) = some r := h; clear h; replace H := bs_ H; obtain ⟨t294, A30, H⟩ := H; try dsimp only at H
 have A3 := am_ A30; clear A30; replace H := bs_ H; obtain ⟨t295, A40, H⟩ := H; try dsimp only at H
 have A4 := am_ A40; clear A40; obtain rfl := si_ H; go_enter Try.func34, Try.ntmps34
 go_wp2_with (first | ((with_reducible refine gate_callee (f := 46) rfl ?_); refine goesL_ (some 6) rfl rfl Try.func46 (by kernel_rfl) rfl #[.string a0] rfl goa_ ?_; (with_reducible refine (r04_Lower.calls k a0 t294 _ A3.out).mono ?_); rintro e w5 ⟨rfl, hb⟩; refine ⟨_, rfl, ?_⟩; replace HB := am_ (below_step bel_ hb); clear hb) | ((with_reducible refine gate_callee (f := 46) rfl ?_); refine goesL_ (some 8) rfl rfl Try.func46 (by kernel_rfl) rfl #[.string a1] rfl goa_ ?_; (with_reducible refine (r04_Lower.calls k a1 t295 _ A4.out).mono ?_); rintro e w6 ⟨rfl, hb⟩; refine ⟨_, rfl, ?_⟩; replace HB := am_ (below_step bel_ hb); clear hb))
 go_ret
 exact ⟨rsl_, bel_⟩


/-! ### r05_Keyword: function 20 -/
def r05_Keyword.l0 : Nat → Int → List ByteArray → Int → Int → Int → ByteArray → ByteArray → Option (Int × Int)
 | 0, _, _, _, _, _, _, _ => none
 | k + 1, x1, x2, x9, x301000, x301001, x301002, x301003 => if x9 < (x2.length : Int) then (if x301000 = 1 then (if 0 ≤ x9 then ((r04_Is.f k x301002 (rdOf ByteArray.empty x2 x9)).bind fun t302 => (if t302 = true then (some (x9, wrap64 (x1 + 1))) else (r05_Keyword.l0 k x1 x2 (wrap64 (x9 + 1)) x301000 x301001 x301002 x301003))) else (none)) else (r05_Keyword.l0 k x1 x2 (wrap64 (x9 + 1)) x301000 x301001 x301002 x301003)) else (some ((-1), x1))
def r05_Keyword.f (k : Nat) (l0 : List (S43)) (a1 : Int) (l2 : List ByteArray) : Option (Int × Int) := (r05_Word.f l0 a1).bind fun bt296 => (r05_Keyword.l0 k a1 l2 0 bt296.1 bt296.2.1 bt296.2.2.1 bt296.2.2.2)
theorem r05_Keyword.mono_l : ∀ k, (∀ y0 y1 y2 y3 y4 y5 y6, LeO (r05_Keyword.l0 k y0 y1 y2 y3 y4 y5 y6) (r05_Keyword.l0 (k + 1) y0 y1 y2 y3 y4 y5 y6))
 | 0 => fun _ _ _ _ _ _ _ r h => by simp [r05_Keyword.l0] at h
 | k + 1 => by
  have ih0 := r05_Keyword.mono_l k; intro y0 y1 y2 y3 y4 y5 y6; unfold r05_Keyword.l0; repeat' first
  | (with_reducible exact ih0 _ _ _ _ _ _ _)
  | (with_reducible exact r04_Is.mono _ _ _)
  | (with_reducible first | exact LeO.refl _ | exact LeO.none _ | refine LeO.ite ?_ ?_ | refine LeO.bind ?_ (fun _ => ?_))
theorem r05_Keyword.mono : ∀ a0 a1 a2 k, LeO (r05_Keyword.f k a0 a1 a2) (r05_Keyword.f (k + 1) a0 a1 a2) := by
 intro a0 a1 a2 k; have ih0 := r05_Keyword.mono_l k; unfold r05_Keyword.f; repeat' first
   | (with_reducible exact ih0 _ _ _ _ _ _ _)
   | (with_reducible exact r04_Is.mono _ _ _)
   | (with_reducible first | exact LeO.refl _ | exact LeO.none _ | refine LeO.ite ?_ ?_ | refine LeO.bind ?_ (fun _ => ?_))
def r05_Keyword.T5 : Bool × List (List Nat × List Nat) := (true, [([], []), ([0], [0]), ([1], [1]), ([2], [2]), ([3], [3]), ([4, 3], [3, 4]), ([3], [3]), ([3], [3]), ([6, 7, 3], [3, 6, 7]), ([8, 3], [3, 8]), ([5, 9, 3, 3], [3, 5, 9]), ([3, 10], [3, 10])])
def r05_Keyword.B5 : List Nat := [0, 1, 3, 7, 15, 31, 15, 15, 207, 463, 1023, 2047]
theorem r05_Keyword.tab5 : rtab .any (opsOf Try.f20 5) = r05_Keyword.T5 := by kernel_rfl
theorem r05_Keyword.bits5 : waitsOk r05_Keyword.T5.2 r05_Keyword.B5 = true := by kernel_rfl
set_option maxHeartbeats 8000000 in
theorem r05_Keyword.calls (k : Nat) (A0 : Option Addr) (c0 : Nat) (l0 : List (S43)) (a1 : Int) (A2 : Option Addr) (c2 : Nat) (l2 : List ByteArray) (r1 : Int) (r2 : Int) (w : World) (hr0 : Kd.C k43 w A0 l0.length l0) (hc0 : l0.length ≤ c0) (hr2 : Kd.C Kd.string w A2 l2.length l2) (hc2 : l2.length ≤ c2) (h : r05_Keyword.f k l0 a1 l2 = some (r1, r2)) :
  Calls Try.prog 20 #[.slice A0 l0.length c0, .int .i64 a1, .slice A2 l2.length c2] w fun e w' => e = .returned (.tuple #[.int .i64 r1, .int .i64 r2]) ∧ Below w.heap.size w w' := by
 have hu43 := Try.underlying43; have HR0 := am_ hr0; have HC0 := am_ hc0; clear hr0 hc0; have HR2 := am_ hr2; have HC2 := am_ hc2; clear hr2 hc2; have HB := am_ (Below.refl w.heap.size w); have H : ((r05_Word.f l0 a1).bind fun bt296 => (r05_Keyword.l0 k a1 l2 0 bt296.1 bt296.2.1 bt296.2.2.1 bt296.2.2.2)) = some (r1, r2) := h; clear h; replace H := bs_ H; obtain ⟨⟨t296, t297, t298, t299⟩, A40, H⟩ := H; try dsimp only at H
 have A4 := am_ A40; clear A40; have H' := am_ H; clear H; go_enter Try.func20, Try.ntmps20
 go_wp2_with (first | ((with_reducible refine gate_callee (f := 33) rfl ?_); refine goesL_ (some 12) rfl rfl Try.func33 (by kernel_rfl) rfl #[.slice A0 l0.length c0, .int .i64 a1] rfl goa_ ?_; (with_reducible refine (r05_Word.calls _ _ l0 a1 t296 t297 t298 t299 _ ?side1 ?side2 A4.out).mono ?_); (case side1 => exact cin_); (case side2 => exact HC0.out); rintro e w5 ⟨rfl, hb⟩; refine ⟨_, rfl, ?_⟩; replace HB := am_ (below_step bel_ hb); clear hb) | ((with_reducible refine gate_dst (N := 8) rfl ?_); refine box_event ?hg (N := 8) ?hd (cs := #[.int .i64 0, .int .i64 0, .string (⟨#[]⟩ : ByteArray), .string (⟨#[]⟩ : ByteArray)]) (t := 43) ?hr ?_; (case hd => rfl); (case hg => rfl); (case hr => first | (go_simp; done) | (go_simp; rfl)); intro gb300 hg w6 hbox hb; have BK300 := am_ (hbox); have GW300 := am_ ((bsz_ hg : w.heap.size ≤ gb300)); have GE300 := am_ ((bsz_ hg : w.heap.size ≤ gb300)); replace HB := am_ (below_step bel_ hb); clear hb hbox hg; obtain ⟨hcz7_0, hcz7_1, hcz7_2, hcz7_3⟩ := c4_ BK300; obtain ⟨hfz7_0, hfz7_1, hfz7_2, hfz7_3⟩ := f4_ BK300))
 go_loopg [9] k (fun kq v9 w' => ∃ (x9_1 : Int), v9 = .int .i64 x9_1 ∧ Aside0 (r05_Keyword.l0 kq a1 l2 x9_1 t296 t297 t298 t299 = some (r1, r2)) ∧ Aside0 (kq ≤ k) ∧ Aside0 (w'.heap[gb300]? = some (.cells #[.int .i64 t296, .int .i64 t297, .string t298, .string t299] 43 (0, 0))) ∧ Aside0 (Below w.heap.size w w'))
 case atStart => exact ⟨(0), rfs_, H', ⟨Nat.le_refl _⟩, ⟨bch_⟩, ⟨bel_⟩⟩
 case round =>
  clear H'; try clear hcz7_0
  try clear hcz7_1
  try clear hcz7_2
  try clear hcz7_3
  try clear hfz7_0
  try clear hfz7_1
  try clear hfz7_2
  try clear hfz7_3
  obtain ⟨x9_1, rfl, HA, HK1, BK300, HB⟩ := hrel
  cases gk with
  | zero => exact absurd HA.out (by simp [r05_Keyword.l0])
  | succ k1 =>
   have H := HA.out; clear HA; simp only [r05_Keyword.l0] at H; by_cases c8 : x9_1 < (l2.length : Int)
   ·rw [if_pos c8] at H; have c8b0 : decide (x9_1 < (l2.length : Int)) = true := dt_ c8; clear c8; by_cases c9 : t296 = 1
    ·rw [if_pos c9] at H; have c9b0 : (t296 == 1) = true := beq_iff_eq.mpr c9; have c9b1 : (t296 != 1) = false := bne_eq_false_iff_eq.mpr c9; clear c9; by_cases c10 : 0 ≤ x9_1
     ·rw [if_pos c10] at H; have c10b0 : decide (0 ≤ x9_1) = true := dt_ c10; clear c10; replace H := bs_ H; obtain ⟨t302, A110, H⟩ := H; try dsimp only at H
      have A11 := am_ A110; clear A110; by_cases c12 : t302 = true
      ·subst c12; rw [if_pos rfl] at H; simp only [Option.some.injEq, Prod.mk.injEq] at H; obtain ⟨rfl, rfl⟩ := H; try go_wp2
       have n0_ := am_ (blk_drew BK300.out); have n1_ := am_ (below_drew1 HB.out); clear BK300; clear HB; have BK300 := n0_; have HB := n1_; clear n0_ n1_; have p301 : 0 ≤ (x9_1 : Int) := od_ (by first | (with_reducible assumption) | assumption); have q301 : x9_1 < (l2.length : Int) := od_ (by first | (with_reducible assumption) | assumption); obtain ⟨ad301, e301, hx301_0⟩ := Kd.at_string HR2.out x9_1 p301 q301; have hw301_0 := hx301_0; cases e301
       replace hx301_0 := (HB.out.cell (World.block_lt_of_cell? w _ hx301_0)).trans hx301_0; replace p301 := eq_true p301; replace q301 := eq_true q301; refine start_ (n := 12) (S := fun w' => w'.cell? ⟨gb300, 0, none⟩ = some (.int .i64 t296) ∧ w'.cell? ⟨gb300, 1, none⟩ = some (.int .i64 t297) ∧ w'.cell? ⟨gb300, 2, none⟩ = some (.string t298) ∧ w'.cell? ⟨gb300, 3, none⟩ = some (.string t299) ∧ w'.cell? (ad301.add (x9_1).toNat) = some (.string (rdOf ByteArray.empty l2 x9_1))) (ds := []) #[false, false, false, false, false, false, false, false, false, false, false, false] (by kernel_rfl) rfl rfl ⟨(blk_cell BK300.out 0).trans rfl, (blk_cell BK300.out 1).trans rfl, (blk_cell BK300.out 2).trans rfl, (blk_cell BK300.out 3).trans rfl, ((HB.out.cell (World.block_lt_of_cell? w _ hw301_0)).trans hw301_0)⟩ (fun hHeld => ?_); refine with_tabW r05_Keyword.tab5 r05_Keyword.bits5 (fun HT_ HW_ => ?_)
       generalize wr.drew = w13 at BK300 HB hx301_0 hHeld ⊢
       refine pus_ 0 (some 19) #[true, false, false, false, false, false, false, false, false, false, false, false] rfl rfl HT_.out ?_
       refine tas_ 1 (some 20) #[true, true, false, false, false, false, false, false, false, false, false, false] rfl rfl HT_.out HW_.out hHeld ?_
       refine pus_ 2 (some 21) #[true, true, true, false, false, false, false, false, false, false, false, false] rfl rfl HT_.out ?_
       refine pus_ 3 (some 22) #[true, true, true, true, false, false, false, false, false, false, false, false] rfl rfl HT_.out ?_
       refine pus_ 4 (some 23) #[true, true, true, true, true, false, false, false, false, false, false, false] rfl rfl HT_.out ?_
       refine pus_ 6 (some 25) #[true, true, true, true, true, false, true, false, false, false, false, false] rfl rfl HT_.out ?_
       refine pus_ 7 (some 26) #[true, true, true, true, true, false, true, true, false, false, false, false] rfl rfl HT_.out ?_
       refine pus_ 8 (some 27) #[true, true, true, true, true, false, true, true, true, false, false, false] rfl rfl HT_.out ?_
       refine tas_ 5 (some 24) #[true, true, true, true, true, true, true, true, true, false, false, false] rfl rfl HT_.out HW_.out hHeld ?_
       refine tas_ 9 (some 28) #[true, true, true, true, true, true, true, true, true, true, false, false] rfl rfl HT_.out HW_.out hHeld ?_
       refine one_ (i := 10) (N := some 29) #[true, true, true, true, true, true, true, true, true, true, true, false] rfl rfl (one_of HT_.out (by kernel_rfl)) (by decide) (fun K hK => ?_)
       refine goes_ Try.func34 (by kernel_rfl) rfl #[.string t298, .string (rdOf ByteArray.empty l2 x9_1)] (by rfl) rfl rfl goa_ ?_
       with_reducible refine (r04_Is.calls k1 t298 (rdOf ByteArray.empty l2 x9_1) true _ A11.out).mono ?_
       rintro e w14 ⟨rfl, hb⟩
       refine ⟨_, rfl, ?_⟩
       have n0_ := blb_ BK300 hb; have n1_ := am_ (below_step bel_ hb); clear BK300; clear HB; have BK300 := n0_; have HB := n1_; clear n0_ n1_; (try clear hb)
       (try clear hb2)
       (try clear hk)
       (try clear hi)
       refine hK.out _ _ ⟨(blk_cell BK300.out 0).trans rfl, (blk_cell BK300.out 1).trans rfl, (blk_cell BK300.out 2).trans rfl, (blk_cell BK300.out 3).trans rfl, ((HB.out.cell (World.block_lt_of_cell? w _ hw301_0)).trans hw301_0)⟩ (fun hHeld => ?_)
       clear hK K; refine norm_ (a' := ?_) ?_ ?_
       rotate_left
       ·show Act.put _ (some 29) _ = _
        simp only [Act.put, List.setIfInBounds_toArray, List.set_cons_zero, List.set_cons_succ, i64_w, i32_w]; rfl
       refine pus_ 11 (some 30) #[true, true, true, true, true, true, true, true, true, true, true, true] rfl rfl HT_.out ?_
       refine done_ (done_of HT_.out (by kernel_rfl)) ?_
       try go_wp2
       go_ret2
       exact ⟨rsl_, bel_⟩
      replace c12 := Bool.eq_false_iff.mpr c12; subst c12; rw [if_neg (show ¬ (false = true) by decide)] at H; have H' := am_ H; clear H; try go_wp2
      have n0_ := am_ (blk_drew BK300.out); have n1_ := am_ (below_drew1 HB.out); clear BK300; clear HB; have BK300 := n0_; have HB := n1_; clear n0_ n1_; have p301 : 0 ≤ (x9_1 : Int) := od_ (by first | (with_reducible assumption) | assumption); have q301 : x9_1 < (l2.length : Int) := od_ (by first | (with_reducible assumption) | assumption); obtain ⟨ad301, e301, hx301_0⟩ := Kd.at_string HR2.out x9_1 p301 q301; have hw301_0 := hx301_0; cases e301
      replace hx301_0 := (HB.out.cell (World.block_lt_of_cell? w _ hx301_0)).trans hx301_0; replace p301 := eq_true p301; replace q301 := eq_true q301; refine start_ (n := 12) (S := fun w' => w'.cell? ⟨gb300, 0, none⟩ = some (.int .i64 t296) ∧ w'.cell? ⟨gb300, 1, none⟩ = some (.int .i64 t297) ∧ w'.cell? ⟨gb300, 2, none⟩ = some (.string t298) ∧ w'.cell? ⟨gb300, 3, none⟩ = some (.string t299) ∧ w'.cell? (ad301.add (x9_1).toNat) = some (.string (rdOf ByteArray.empty l2 x9_1))) (ds := []) #[false, false, false, false, false, false, false, false, false, false, false, false] (by kernel_rfl) rfl rfl ⟨(blk_cell BK300.out 0).trans rfl, (blk_cell BK300.out 1).trans rfl, (blk_cell BK300.out 2).trans rfl, (blk_cell BK300.out 3).trans rfl, ((HB.out.cell (World.block_lt_of_cell? w _ hw301_0)).trans hw301_0)⟩ (fun hHeld => ?_); refine with_tabW r05_Keyword.tab5 r05_Keyword.bits5 (fun HT_ HW_ => ?_)
      generalize wr.drew = w15 at BK300 HB hx301_0 hHeld ⊢
      refine pus_ 0 (some 19) #[true, false, false, false, false, false, false, false, false, false, false, false] rfl rfl HT_.out ?_
      refine tas_ 1 (some 20) #[true, true, false, false, false, false, false, false, false, false, false, false] rfl rfl HT_.out HW_.out hHeld ?_
      refine pus_ 2 (some 21) #[true, true, true, false, false, false, false, false, false, false, false, false] rfl rfl HT_.out ?_
      refine pus_ 3 (some 22) #[true, true, true, true, false, false, false, false, false, false, false, false] rfl rfl HT_.out ?_
      refine pus_ 4 (some 23) #[true, true, true, true, true, false, false, false, false, false, false, false] rfl rfl HT_.out ?_
      refine pus_ 6 (some 25) #[true, true, true, true, true, false, true, false, false, false, false, false] rfl rfl HT_.out ?_
      refine pus_ 7 (some 26) #[true, true, true, true, true, false, true, true, false, false, false, false] rfl rfl HT_.out ?_
      refine pus_ 8 (some 27) #[true, true, true, true, true, false, true, true, true, false, false, false] rfl rfl HT_.out ?_
      refine tas_ 5 (some 24) #[true, true, true, true, true, true, true, true, true, false, false, false] rfl rfl HT_.out HW_.out hHeld ?_
      refine tas_ 9 (some 28) #[true, true, true, true, true, true, true, true, true, true, false, false] rfl rfl HT_.out HW_.out hHeld ?_
      refine one_ (i := 10) (N := some 29) #[true, true, true, true, true, true, true, true, true, true, true, false] rfl rfl (one_of HT_.out (by kernel_rfl)) (by decide) (fun K hK => ?_)
      refine goes_ Try.func34 (by kernel_rfl) rfl #[.string t298, .string (rdOf ByteArray.empty l2 x9_1)] (by rfl) rfl rfl goa_ ?_
      with_reducible refine (r04_Is.calls k1 t298 (rdOf ByteArray.empty l2 x9_1) false _ A11.out).mono ?_
      rintro e w16 ⟨rfl, hb⟩
      refine ⟨_, rfl, ?_⟩
      have n0_ := blb_ BK300 hb; have n1_ := am_ (below_step bel_ hb); clear BK300; clear HB; have BK300 := n0_; have HB := n1_; clear n0_ n1_; (try clear hb)
      (try clear hb2)
      (try clear hk)
      (try clear hi)
      refine hK.out _ _ ⟨(blk_cell BK300.out 0).trans rfl, (blk_cell BK300.out 1).trans rfl, (blk_cell BK300.out 2).trans rfl, (blk_cell BK300.out 3).trans rfl, ((HB.out.cell (World.block_lt_of_cell? w _ hw301_0)).trans hw301_0)⟩ (fun hHeld => ?_)
      clear hK K; refine norm_ (a' := ?_) ?_ ?_
      rotate_left
      ·show Act.put _ (some 29) _ = _
       simp only [Act.put, List.setIfInBounds_toArray, List.set_cons_zero, List.set_cons_succ, i64_w, i32_w]; rfl
      refine pus_ 11 (some 30) #[true, true, true, true, true, true, true, true, true, true, true, true] rfl rfl HT_.out ?_
      refine done_ (done_of HT_.out (by kernel_rfl)) ?_
      try go_wp2
      go_roundg k1
      case measure => have := HK1.out; omega
      case rel => exact ⟨(wrap64 (x9_1 + 1)), rfs_, H', ⟨by have := HK1.out; omega⟩, ⟨blk_⟩, ⟨bel_⟩⟩
     rw [if_neg c10] at H; exact absurd H (by simp)
    rw [if_neg c9] at H; have c9b0 : (t296 == 1) = false := beq_eq_false_iff_ne.mpr c9; have c9b1 : (t296 != 1) = true := bne_iff_ne.mpr c9; have H' := am_ H; clear H; try go_wp2
    have n0_ := am_ (blk_drew BK300.out); have n1_ := am_ (below_drew1 HB.out); clear BK300; clear HB; have BK300 := n0_; have HB := n1_; clear n0_ n1_; refine start_ (n := 12) (S := fun w' => w'.cell? ⟨gb300, 0, none⟩ = some (.int .i64 t296) ∧ w'.cell? ⟨gb300, 1, none⟩ = some (.int .i64 t297) ∧ w'.cell? ⟨gb300, 2, none⟩ = some (.string t298) ∧ w'.cell? ⟨gb300, 3, none⟩ = some (.string t299)) (ds := []) #[false, false, false, false, false, false, false, false, false, false, false, false] (by kernel_rfl) rfl rfl ⟨(blk_cell BK300.out 0).trans rfl, (blk_cell BK300.out 1).trans rfl, (blk_cell BK300.out 2).trans rfl, (blk_cell BK300.out 3).trans rfl⟩ (fun hHeld => ?_); refine with_tabW r05_Keyword.tab5 r05_Keyword.bits5 (fun HT_ HW_ => ?_)
    generalize wr.drew = w17 at BK300 HB hHeld ⊢
    refine pus_ 0 (some 19) #[true, false, false, false, false, false, false, false, false, false, false, false] rfl rfl HT_.out ?_
    refine tas_ 1 (some 20) #[true, true, false, false, false, false, false, false, false, false, false, false] rfl rfl HT_.out HW_.out hHeld ?_
    refine pus_ 2 (some 21) #[true, true, true, false, false, false, false, false, false, false, false, false] rfl rfl HT_.out ?_
    refine pus_ 3 (some 22) #[true, true, true, true, false, false, false, false, false, false, false, false] rfl rfl HT_.out ?_
    refine puu_ 4 (some 23) #[true, true, true, true, true, false, false, false, false, false, false, false] rfl rfl HT_.out ?_
    refine puu_ 5 (some 24) #[true, true, true, true, true, true, false, false, false, false, false, false] rfl rfl HT_.out ?_
    refine puu_ 6 (some 25) #[true, true, true, true, true, true, true, false, false, false, false, false] rfl rfl HT_.out ?_
    refine puu_ 7 (some 26) #[true, true, true, true, true, true, true, true, false, false, false, false] rfl rfl HT_.out ?_
    refine puu_ 8 (some 27) #[true, true, true, true, true, true, true, true, true, false, false, false] rfl rfl HT_.out ?_
    refine puu_ 9 (some 28) #[true, true, true, true, true, true, true, true, true, true, false, false] rfl rfl HT_.out ?_
    refine puu_ 10 (some 29) #[true, true, true, true, true, true, true, true, true, true, true, false] rfl rfl HT_.out ?_
    refine pus_ 11 (some 30) #[true, true, true, true, true, true, true, true, true, true, true, true] rfl rfl HT_.out ?_
    refine done_ (done_of HT_.out (by kernel_rfl)) ?_
    try go_wp2
    go_roundg k1
    case measure => have := HK1.out; omega
    case rel => exact ⟨(wrap64 (x9_1 + 1)), rfs_, H', ⟨by have := HK1.out; omega⟩, ⟨blk_⟩, ⟨bel_⟩⟩
   rw [if_neg c8] at H; have c8b0 : decide (x9_1 < (l2.length : Int)) = false := df_ c8; clear c8; simp only [Option.some.injEq, Prod.mk.injEq] at H; obtain ⟨rfl, rfl⟩ := H; go_wp2; go_ret2
   exact ⟨rsl_, bel_⟩


/-! ### r02_sign: function 69 -/
def r02_sign.f (a0 : ByteArray) (a1 : Int) : Option (Int) := if a1 < (a0.size : Int) then (if 0 ≤ a1 then (if (bt a0 a1) = 43 then (some 1) else (if (bt a0 a1) = 45 then (some 1) else (some 0))) else (none)) else (some 0)
set_option maxHeartbeats 8000000 in
theorem r02_sign.calls (a0 : ByteArray) (a1 : Int) (r : Int) (w : World) (h : r02_sign.f a0 a1 = some r) :
  Calls Try.prog 69 #[.string a0, .int .i64 a1] w fun e w' => e = .returned (.int .i64 r) ∧ Drawn0 w w' := by
 have H : (if a1 < (a0.size : Int) then (if 0 ≤ a1 then (if (bt a0 a1) = 43 then (some 1) else (if (bt a0 a1) = 45 then (some 1) else (some 0))) else (none)) else (some 0)) = some r := h; clear h; by_cases c3 : a1 < (a0.size : Int)
 ·rw [if_pos c3] at H; have c3b0 : decide (a1 < (a0.size : Int)) = true := dt_ c3; clear c3; by_cases c4 : 0 ≤ a1
  ·rw [if_pos c4] at H; have c4b0 : decide (0 ≤ a1) = true := dt_ c4; clear c4; by_cases c6 : (bt a0 a1) = 43
   ·rw [if_pos c6] at H; have c6b0 : ((bt a0 a1) == 43) = true := beq_iff_eq.mpr c6; have c6b1 : ((bt a0 a1) != 43) = false := bne_eq_false_iff_eq.mpr c6; clear c6; obtain rfl := si_ H; have p5 : 0 ≤ (a1 : Int) := od_ (by first | (with_reducible assumption) | assumption); have q5 : a1 < (a0.size : Int) := od_ (by first | (with_reducible assumption) | assumption); have hx5 := bt_at a0 a1; replace p5 := eq_true p5; replace q5 := eq_true q5; go_enter Try.func69, Try.ntmps69
    go_wp2; go_ret
    exact ⟨by first | rfl | (simp; done) | (simp [*]; done), drs_⟩
   rw [if_neg c6] at H; have c6b0 : ((bt a0 a1) == 43) = false := beq_eq_false_iff_ne.mpr c6; have c6b1 : ((bt a0 a1) != 43) = true := bne_iff_ne.mpr c6; by_cases c8 : (bt a0 a1) = 45
   ·rw [if_pos c8] at H; have c8b0 : ((bt a0 a1) == 45) = true := beq_iff_eq.mpr c8; have c8b1 : ((bt a0 a1) != 45) = false := bne_eq_false_iff_eq.mpr c8; clear c8; obtain rfl := si_ H; have p5 : 0 ≤ (a1 : Int) := od_ (by first | (with_reducible assumption) | assumption); have q5 : a1 < (a0.size : Int) := od_ (by first | (with_reducible assumption) | assumption); have hx5 := bt_at a0 a1; replace p5 := eq_true p5; replace q5 := eq_true q5; have p7 : 0 ≤ (a1 : Int) := od_ (by first | (with_reducible assumption) | assumption); have q7 : a1 < (a0.size : Int) := od_ (by first | (with_reducible assumption) | assumption); have hx7 := bt_at a0 a1; replace p7 := eq_true p7; replace q7 := eq_true q7; go_enter Try.func69, Try.ntmps69
    go_wp2; go_ret
    exact ⟨by first | rfl | (simp; done) | (simp [*]; done), drs_⟩
   rw [if_neg c8] at H; have c8b0 : ((bt a0 a1) == 45) = false := beq_eq_false_iff_ne.mpr c8; have c8b1 : ((bt a0 a1) != 45) = true := bne_iff_ne.mpr c8; obtain rfl := si_ H; have p5 : 0 ≤ (a1 : Int) := od_ (by first | (with_reducible assumption) | assumption); have q5 : a1 < (a0.size : Int) := od_ (by first | (with_reducible assumption) | assumption); have hx5 := bt_at a0 a1; replace p5 := eq_true p5; replace q5 := eq_true q5; have p7 : 0 ≤ (a1 : Int) := od_ (by first | (with_reducible assumption) | assumption); have q7 : a1 < (a0.size : Int) := od_ (by first | (with_reducible assumption) | assumption); have hx7 := bt_at a0 a1; replace p7 := eq_true p7; replace q7 := eq_true q7; go_enter Try.func69, Try.ntmps69
   go_wp2; go_ret
   exact ⟨by first | rfl | (simp; done) | (simp [*]; done), drs_⟩
  rw [if_neg c4] at H; exact absurd H (by simp)
 rw [if_neg c3] at H; have c3b0 : decide (a1 < (a0.size : Int)) = false := df_ c3; clear c3; obtain rfl := si_ H; go_enter Try.func69, Try.ntmps69
 go_wp2; go_ret
 exact ⟨by first | rfl | (simp; done) | (simp [*]; done), drs_⟩

/-! ### r02_digit: function 49 -/
def r02_digit.f (a0 : Int) : Option (Bool) := if a0 ≥ 48 then (some (decide (a0 ≤ 57))) else (some false)
set_option maxHeartbeats 8000000 in
theorem r02_digit.calls (a0 : Int) (r : Bool) (w : World) (h : r02_digit.f a0 = some r) :
  Calls Try.prog 49 #[.int .u8 a0] w fun e w' => e = .returned (.bool r) ∧ Drawn0 w w' := by
 have H : (if a0 ≥ 48 then (some (decide (a0 ≤ 57))) else (some false)) = some r := h; clear h; by_cases c2 : a0 ≥ 48
 ·rw [if_pos c2] at H; have c2b0 : decide (48 ≤ a0) = true := dt_ c2; clear c2; obtain rfl := si_ H; go_enter Try.func49, Try.ntmps49
  go_wp2; go_ret
  exact ⟨by first | rfl | (simp; done) | (simp [*]; done), drs_⟩
 rw [if_neg c2] at H; have c2b0 : decide (48 ≤ a0) = false := df_ c2; clear c2; obtain rfl := si_ H; go_enter Try.func49, Try.ntmps49
 go_wp2; go_ret
 exact ⟨by first | rfl | (simp; done) | (simp [*]; done), drs_⟩

/-! ### r02_digits: function 70 -/
def r02_digits.l0 : Nat → ByteArray → Int → Int → Option (Int)
 | 0, _, _, _ => none
 | k + 1, x0, x1, x5 => if (wrap64 (x1 + x5)) < (x0.size : Int) then (if 0 ≤ (wrap64 (x1 + x5)) then ((r02_digit.f (bt x0 (wrap64 (x1 + x5)))).bind fun t303 => (if t303 = true then (r02_digits.l0 k x0 x1 (wrap64 (x5 + 1))) else (some x5))) else (none)) else (some x5)
def r02_digits.f (k : Nat) (a0 : ByteArray) (a1 : Int) : Option (Int) := r02_digits.l0 k a0 a1 0
theorem r02_digits.mono_l : ∀ k, (∀ y0 y1 y2, LeO (r02_digits.l0 k y0 y1 y2) (r02_digits.l0 (k + 1) y0 y1 y2))
 | 0 => fun _ _ _ r h => by simp [r02_digits.l0] at h
 | k + 1 => by
  have ih0 := r02_digits.mono_l k; intro y0 y1 y2; unfold r02_digits.l0; repeat' first
  | (with_reducible exact ih0 _ _ _)
  | (with_reducible first | exact LeO.refl _ | exact LeO.none _ | refine LeO.ite ?_ ?_ | refine LeO.bind ?_ (fun _ => ?_))
theorem r02_digits.mono : ∀ a0 a1 k, LeO (r02_digits.f k a0 a1) (r02_digits.f (k + 1) a0 a1) := by
 intro a0 a1 k; have ih0 := r02_digits.mono_l k; unfold r02_digits.f; repeat' first
   | (with_reducible exact ih0 _ _ _)
   | (with_reducible first | exact LeO.refl _ | exact LeO.none _ | refine LeO.ite ?_ ?_ | refine LeO.bind ?_ (fun _ => ?_))
set_option maxHeartbeats 8000000 in
theorem r02_digits.calls (k : Nat) (a0 : ByteArray) (a1 : Int) (r : Int) (w : World) (h : r02_digits.f k a0 a1 = some r) :
  Calls Try.prog 70 #[.string a0, .int .i64 a1] w fun e w' => e = .returned (.int .i64 r) ∧ Drawn0 w w' := by
 have H : (r02_digits.l0 k a0 a1 0) = some r := h; clear h; have H' := am_ H; clear H; go_enter Try.func70, Try.ntmps70
 go_wp2; go_loopg [5] k (fun kq v5 w' => ∃ (x5_1 : Int), v5 = .int .i64 x5_1 ∧ Aside0 (r02_digits.l0 kq a0 a1 x5_1 = some r) ∧ Aside0 (kq ≤ k) ∧ Drawn0 w w')
 case atStart => exact ⟨(0), rfs_, H', ⟨Nat.le_refl _⟩, drs_⟩
 case round =>
  clear H'; obtain ⟨x5_1, rfl, HA, HK1, ⟨m1, rfl⟩⟩ := hrel
  cases gk with
  | zero => exact absurd HA.out (by simp [r02_digits.l0])
  | succ k1 =>
   have H := HA.out; clear HA; simp only [r02_digits.l0] at H; by_cases c3 : (wrap64 (a1 + x5_1)) < (a0.size : Int)
   ·rw [if_pos c3] at H; have c3b0 : decide ((wrap64 (a1 + x5_1)) < (a0.size : Int)) = true := dt_ c3; clear c3; obtain ⟨ji4, hji4⟩ : ∃ j_ : Int, (wrap64 (a1 + x5_1)) = j_ := ⟨_, rfl⟩
    replace H : (if 0 ≤ (ji4) then ((r02_digit.f (bt a0 (ji4))).bind fun t303 => (if t303 = true then (r02_digits.l0 k1 a0 a1 (wrap64 (x5_1 + 1))) else (some x5_1))) else (none)) = some r := by first | (rw [hji4] at H; exact H) | (simp only [hji4] at H ⊢; exact H)
    (try rw [hji4] at c3b0)
    have hji4w : (IntKind.i64.wrap (a1 + x5_1)) = ji4 := (i64_w _).trans hji4; by_cases c5 : 0 ≤ (ji4)
    ·rw [if_pos c5] at H; have c5b0 : decide (0 ≤ (ji4)) = true := dt_ c5; clear c5; replace H := bs_ H; obtain ⟨t303, A70, H⟩ := H; try dsimp only at H
     have A7 := am_ A70; clear A70; by_cases c8 : t303 = true
     ·subst c8; rw [if_pos rfl] at H; have H' := am_ H; clear H; have p6 : 0 ≤ ((ji4) : Int) := od_ (by first | (with_reducible assumption) | assumption); have q6 : (ji4) < (a0.size : Int) := od_ (by first | (with_reducible assumption) | assumption); have hx6 := bt_at a0 (ji4); replace p6 := eq_true p6; replace q6 := eq_true q6; go_wp2_with (first | (go_at_call 49; (with_reducible refine (r02_digit.calls (bt a0 (ji4)) true _ A7.out).mono ?_); rintro e w' ⟨rfl, ⟨nd, rfl⟩⟩))
      go_roundg k1
      case measure => have := HK1.out; omega
      case rel => exact ⟨(wrap64 (x5_1 + 1)), rfs_, H', ⟨by have := HK1.out; omega⟩, drs_⟩
     replace c8 := Bool.eq_false_iff.mpr c8; subst c8; rw [if_neg (show ¬ (false = true) by decide)] at H; obtain rfl := si_ H; have p6 : 0 ≤ ((ji4) : Int) := od_ (by first | (with_reducible assumption) | assumption); have q6 : (ji4) < (a0.size : Int) := od_ (by first | (with_reducible assumption) | assumption); have hx6 := bt_at a0 (ji4); replace p6 := eq_true p6; replace q6 := eq_true q6; go_wp2_with (first | (go_at_call 49; (with_reducible refine (r02_digit.calls (bt a0 (ji4)) false _ A7.out).mono ?_); rintro e w' ⟨rfl, ⟨nd, rfl⟩⟩))
     go_ret
     exact ⟨by first | rfl | (simp; done) | (simp only [← hji4] <;> (first | rfl | simp)) | (simp [*]; done), drs_⟩
    rw [if_neg c5] at H; exact absurd H (by simp)
   rw [if_neg c3] at H; have c3b0 : decide ((wrap64 (a1 + x5_1)) < (a0.size : Int)) = false := df_ c3; clear c3; obtain rfl := si_ H; go_wp2; go_ret
   exact ⟨by first | rfl | (simp; done) | (simp [*]; done), drs_⟩

end Go.Proofs.Ytofdhdafabmhmaa.PLr
end
