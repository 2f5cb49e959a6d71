import Derived.Test.YtfccpnpocfjbcaaPTkx2
import Derived.Test.YtfccpnpocfjbcaaPTkx5
import Derived.Test.YtfccpnpocfjbcaaPTkx6
import Derived.Test.YtfccpnpocfjbcaaPTkx8
import Derived.Test.YtfccpnpocfjbcaaSq
import Derived.BigRegion
import Derived.BigQuiet
import Derived.Deep.QuietTactic
import Derived.Test.YtfccpnpocfjbcaaLex7
import Derived.Test.YtfccpnpocfjbcaaPTkx0
import Derived.Tactics
import Derived.Tactics2
import Derived.Defers
import Derived.Recover
namespace Go.Proofs.Ytfccpnpocfjbcaa.Giv
open Go.RowKit Go.Proofs.YtfccpnpocfjbcaaW.PrintWords Go.Proofs.YtfccpnpocfjbcaaW.PrintLast Go.Proofs.YtfccpnpocfjbcaaW.PrintMore Go.Proofs.Ytfccpnpocfjbcaa.PTk
open Go.Proofs.Ytfccpnpocfjbcaa.Opn Go.BigFrame
set_option linter.unusedVariables false
set_option linter.unusedSimpArgs false
/-- The words of bytes, from a place on. -/
def token_Tokens.l0 : Nat → ByteArray → Nat → List S33 → Option (List S33)
  | 0, _, _, _ => none
  | k + 1, s, i, out => if i < s.size then (if out.length < 65536 then ((wordF k s i).bind fun t => if t.2.2.2 ≤ s.size then ((skipF k s t.2.2.2).bind fun j => if j ≤ s.size then token_Tokens.l0 k s j (out ++ [⟨t.1, (i : Int), t.2.1, t.2.2.1⟩]) else none) else none) else none) else some (out ++ [⟨8, (s.size : Int), ⟨#[]⟩, ⟨#[]⟩⟩])
def token_Tokens.f (k : Nat) (l0 : List Int) : Option (List S33 × Int × Int) := if l0.length ≤ 262144 then ((skipF k (strOfNums l0) 0).bind fun i => if i ≤ (strOfNums l0).size then ((token_Tokens.l0 k (strOfNums l0) i []).bind fun r => some (r, 0, 0)) else none) else none
theorem token_Tokens.mono_l : ∀ k, (∀ s i out, LeO (token_Tokens.l0 k s i out) (token_Tokens.l0 (k + 1) s i out))
  | 0 => fun _ _ _ r h => by simp [token_Tokens.l0] at h
  | k + 1 => by
    have ih0 := token_Tokens.mono_l k
    intro s i out
    unfold token_Tokens.l0
    refine LeO.ite (LeO.ite (LeO.bind (wordF.mono _ _ _) (fun t => LeO.ite (LeO.bind (skipF.mono _ _ _) (fun j => LeO.ite (ih0 _ _ _) (LeO.none _))) (LeO.none _))) (LeO.none _)) (LeO.refl _)
theorem token_Tokens.mono : ∀ l0 k, LeO (token_Tokens.f k l0) (token_Tokens.f (k + 1) l0) := by
  intro l0 k
  unfold token_Tokens.f
  refine LeO.ite (LeO.bind (skipF.mono _ _ _) (fun i => LeO.ite (LeO.bind (token_Tokens.mono_l _ _ _ _) (fun _ => LeO.refl _)) (LeO.none _))) (LeO.none _)
/-- The blocks of Tokens: its three results' variables, and the lexer. -/
structure Toks (w w1 : World) (bo ba be g : Nat) (s : ByteArray) (i : Nat) (out : List S33) (v : Value) : Prop where
  o : w1.heap[bo]? = some (.cells #[v] 28 (0, 0))
  a : w1.heap[ba]? = some (.cells #[.int .i64 0] 3 (0, 0))
  e : w1.heap[be]? = some (.cells #[.int .i64 0] 29 (0, 0))
  x : Lx w1 g s i
  r : Kd.R k33 33 w1 w.heap.size (fun k => k ≠ bo ∧ k ≠ ba ∧ k ≠ be ∧ k ≠ g) v out
  b : Below w.heap.size w w1
structure Apart4 (w : World) (bo ba be g : Nat) : Prop where
  l0 : w.heap.size ≤ bo
  l1 : bo < ba
  l2 : ba < be
  l3 : be < g
section
variable {w w1 w2 : World} {bo ba be g i : Nat} {s : ByteArray} {out : List S33} {v : Value}
theorem Toks.below (h : Toks w w1 bo ba be g s i out v) (hb : Below w1.heap.size w1 w2) : Toks w w2 bo ba be g s i out v :=
  ⟨blk_below h.o hb, blk_below h.a hb, blk_below h.e hb, h.x.below hb, Kd.R_below h.r hb, below_step h.b hb⟩
theorem Toks.lk (h : Toks w w1 bo ba be g s i out v) (hp : Apart4 w bo ba be g) {j : Nat} (hk : Lk g w1 w2) (hx : Lx w2 g s j) : Toks w w2 bo ba be g s j out v :=
  ⟨hk.at h.o (by have := hp.l1; have := hp.l2; have := hp.l3; omega), hk.at h.a (by have := hp.l2; have := hp.l3; omega), hk.at h.e (by have := hp.l3; omega), hx,
    Kd.R_step h.r (fun k hok hlt => hk.heap k hlt hok.2.2.2), Lk.below h.b hk (by have := hp.l0; have := hp.l1; have := hp.l2; have := hp.l3; omega) (below_size h.b)⟩
theorem Toks.drewN (h : Toks w w1 bo ba be g s i out v) (n : Nat) : Toks w (w1.drewN n) bo ba be g s i out v := h.below ⟨rfl, rfl, rfl, Nat.le_refl _, fun _ _ => rfl⟩
theorem Toks.drew (h : Toks w w1 bo ba be g s i out v) : Toks w w1.drew bo ba be g s i out v := h.below ⟨rfl, rfl, rfl, Nat.le_refl _, fun _ _ => rfl⟩
/-- A cell of a block that is neither of these, nor the row's. -/
theorem Toks.far (h : Toks w w1 bo ba be g s i out v) {b : Nat} (h0 : w.heap.size ≤ b) (h1 : bo ≠ b) (h2 : ba ≠ b) (h3 : be ≠ b) (h4 : g ≠ b) (h5 : v.ownBlock ≠ some b) (o : Nat) (u : Value) : Toks w (w1.setCell ⟨b, o, none⟩ u) bo ba be g s i out v :=
  ⟨blk_far h.o h1 _, blk_far h.a h2 _, blk_far h.e h3 _, h.x.far h4 _ _, Kd.R_mono (Kd.R_far (Kd.R_reok rfl h.r (ok := fun k => (k ≠ bo ∧ k ≠ ba ∧ k ≠ be ∧ k ≠ g) ∧ k ≠ b) (fun k hk => ⟨h.r.1 k hk, fun e => h5 (by rw [hk, e])⟩)) (fun k hk => hk.2) _) (fun _ hk => hk.1), below_set h.b h0⟩
theorem Toks.set (h : Toks w w1 bo ba be g s i out v) (hp : Apart4 w bo ba be g) {out' : List S33} {v' : Value} (hg : w1.grownBy w2 v.ownBlock) (hr : Kd.R k33 33 w2 w.heap.size (fun k => k ≠ bo ∧ k ≠ ba ∧ k ≠ be ∧ k ≠ g) v' out') (hb : Below w.heap.size w w2) :
    Toks w (w2.setCell ⟨bo, 0, none⟩ v') bo ba be g s i out' v' := by
  have n0 : some bo ≠ v.ownBlock := fun e => (h.r.1 bo e.symm).1 rfl
  have n1 : some ba ≠ v.ownBlock := fun e => (h.r.1 ba e.symm).2.1 rfl
  have n2 : some be ≠ v.ownBlock := fun e => (h.r.1 be e.symm).2.2.1 rfl
  have n3 : some g ≠ v.ownBlock := fun e => (h.r.1 g e.symm).2.2.2 rfl
  have hp1 := hp.l1
  have hp2 := hp.l2
  have hp3 := hp.l3
  refine ⟨blk_set (blk_grown h.o hg n0) 0 _, blk_far (blk_grown h.a hg n1) (by exact (by omega : ba ≠ bo)) _, blk_far (blk_grown h.e hg n2) (by exact (by omega : be ≠ bo)) _, ?_, Kd.R_far hr (fun k hk => hk.1) _, below_set hb hp.l0⟩
  have hx : Lx w2 g s i := blk_grown h.x hg n3
  exact hx.far (by omega : g ≠ bo) _ _
theorem Toks.fin (h : Toks w w1 bo ba be g s i out v) (hp : Apart4 w bo ba be g) :
    let W := ((w1.setCell ⟨ba, 0, none⟩ (.int .i64 0)).setCell ⟨be, 0, none⟩ (.int .i64 0))
    W.cell? ⟨bo, 0, none⟩ = some v ∧ W.cell? ⟨ba, 0, none⟩ = some (.int .i64 0) ∧ W.cell? ⟨be, 0, none⟩ = some (.int .i64 0) ∧ Kd.R k33 33 W w.heap.size (fun _ => True) v out ∧ Below w.heap.size w W := by
  have hp0 := hp.l0
  have hp1 := hp.l1
  have hp2 := hp.l2
  have h0 := blk_far (blk_far h.o (show bo ≠ ba by omega) (p := ⟨ba, 0, none⟩) (.int .i64 0)) (show bo ≠ be by omega) (p := ⟨be, 0, none⟩) (.int .i64 0)
  have h1 := blk_far (blk_set h.a 0 (.int .i64 0)) (show ba ≠ be by omega) (p := ⟨be, 0, none⟩) (.int .i64 0)
  have h2 := blk_set (blk_far h.e (show be ≠ ba by omega) (p := ⟨ba, 0, none⟩) (.int .i64 0)) 0 (.int .i64 0)
  exact ⟨(blk_cell h0 0).trans rfl, (blk_cell h1 0).trans rfl, (blk_cell h2 0).trans rfl, Kd.R_mono (Kd.R_far (Kd.R_far h.r (fun k hk => hk.2.1) _) (fun k hk => hk.2.2.1) _) (fun _ _ => trivial), below_set (below_set h.b (by omega)) (by omega)⟩
end
/-- What comes of a region that ends as it should. -/
def QN (Q : Exit → Act → World → Prop) : Exit → Act → World → Prop
  | .normal, a, w => Q .normal a w
  | _, _, _ => False
theorem QN.to {Q : Exit → Act → World → Prop} : ∀ e a w, QN Q e a w → Q e a w := by
  intro e a w h
  cases e <;> first | exact h | exact h.elim
theorem infoT : (Try.prog.info? 33).map (fun i => (i.zero, i.size, i.bytes)) = some (some (.agg #[.int .i64 0, .int .i64 0, .string ⟨#[]⟩, .string ⟨#[]⟩]), 4, 48) := by kernel_rfl
theorem tokens_idle (bo ba be : Nat) (w : World) :
    CallsD Try.prog 26 #[.pointer (some ⟨bo, 0, none⟩), .pointer (some ⟨ba, 0, none⟩), .pointer (some ⟨be, 0, none⟩)] .returning w fun e u' w' => e = .returned (.tuple #[]) ∧ u' = .returning ∧ w' = w := by
  refine callsD_of_wpS Try.func26 rfl fun c₀ cs hu => ?_
  apply wpS_seq
  apply wpS_region
  simp [wpOpsS, go_sem, recoverD, hu, Try.ntmps26, Exit.thenS]
  apply wpS_seq
  apply wpS_region
  simp [wpOpsS, go_sem, recoverD, Try.ntmps26, Exit.thenS]
  refine wpS_cond (t := false) (by simp [Act.eval, Array.replicate]) ?_
  simp only [Bool.false_eq_true, if_false]
  refine wpS_of_wp (wp_skip ?_)
  cases c₀
  simp_all [bodyPostS, results, Try.results26]
def token_Tokens.T13 : Bool × List (List Nat × List Nat) := (true, [([], []), ([], []), ([1], [1]), ([2], [2]), ([3], [3]), ([4], [4]), ([5], [5]), ([6], [6]), ([0, 7], [0, 7]), ([8, 8, 0, 1, 2, 3, 4, 5, 6, 7, 8], [8]), ([9, 0, 1, 2, 3, 4, 5, 6, 7, 8, 9], []), ([10, 0, 1, 2, 3, 4, 5, 6, 7, 8, 9, 10], [])])
def token_Tokens.B13 : List Nat := [0, 0, 2, 6, 14, 30, 62, 126, 255, 511, 1023, 2047]
theorem token_Tokens.tab13 : rtab .any (opsOf Try.f13 13) = token_Tokens.T13 := by kernel_rfl
theorem token_Tokens.bits13 : waitsOk token_Tokens.T13.2 token_Tokens.B13 = true := by kernel_rfl
set_option maxHeartbeats 16000000 in
set_option maxRecDepth 100000 in
theorem token_Tokens.calls (k : Nat) (A0 : Option Addr) (c0 : Nat) (l0 : List Int) (r0 : List S33) (r1 r2 : Int) (w : World) (hr0 : Kd.C (Kd.int .u8) w A0 l0.length l0) (hc0 : l0.length ≤ c0) (h : token_Tokens.f k l0 = some (r0, r1, r2)) :
    Calls Try.prog 13 #[.slice A0 l0.length c0] w fun e w' => ∃ v0_ : Value, e = .returned (.tuple #[v0_, .int .i64 r1, .int .i64 r2]) ∧ Kd.R k33 33 w' w.heap.size (fun _ => True) v0_ r0 ∧ Below w.heap.size w w' := by
  have hmf : ∀ (fn : Fn) (first cap : Array Value) (w : World), (Instr.makeFunc fn first cap).run Try.prog w = .ok (.func fn first cap) w := fun _ _ _ _ => rfl
  have hu := Try.underlying47
  have hut := Try.underlying9
  have huT := Try.underlying33
  have HR := Aside0.mk hr0
  clear hr0
  unfold token_Tokens.f at h
  by_cases hl : l0.length ≤ 262144
  · rw [if_pos hl] at h
    obtain ⟨i0, hsk, h⟩ := Option.bind_eq_some_iff.mp h
    have hsz : (strOfNums l0).size = l0.length := by
      show ((l0.map fun n => UInt8.ofNat n.toNat).toArray).size = l0.length
      rw [List.size_toArray, List.length_map]
    obtain ⟨s, hs⟩ : ∃ s, strOfNums l0 = s := ⟨_, rfl⟩
    rw [hs] at h hsk hsz
    have ES := Aside0.mk hs
    by_cases hi0 : i0 ≤ s.size
    · rw [if_pos hi0] at h
      obtain ⟨r, hlp, h⟩ := Option.bind_eq_some_iff.mp h
      obtain ⟨rfl, rfl, rfl⟩ : r = r0 ∧ 0 = r1 ∧ 0 = r2 := by
        have h := Option.some.inj h
        simp only [Prod.mk.injEq] at h
        exact h
      clear h
      have HS := Aside0.mk (show s.size ≤ 140737488351232 by omega)
      have HSZ := Aside0.mk (show s.size ≤ 262144 by omega)
      have HSK := Aside0.mk hsk
      have HLP := Aside0.mk hlp
      have HI0 := Aside0.mk hi0
      have H00 := Aside0.mk (Nat.zero_le s.size)
      have p1 : decide ((l0.length : Int) > 262144) = false := decide_eq_false (by omega)
      have p2 : decide (262144 < (l0.length : Int)) = false := decide_eq_false (by omega)
      clear hsk hlp hi0 hs hsz hl
      go_enter_defers Try.func13, Try.ntmps13
      go_wp2_with (first | ((with_reducible refine gate_dst (N := 2) rfl ?_); (try (refine gate_guard (by rfl) ?_; dsimp only)); refine box_event ?hg (N := 2) ?hd (cs := #[.slice none 0 0]) (t := 28) ?hr ?_; (case hd => rfl); (case hg => rfl); (case hr => first | (go_simp; done) | (go_simp; rfl)); intro bo hg w1 hbox hb; have G0 := Aside0.mk hg; have B0 := Aside0.mk hbox; have BL := Aside0.mk hb; clear hg hbox hb) | ((with_reducible refine gate_dst (N := 3) rfl ?_); (try (refine gate_guard (by rfl) ?_; dsimp only)); refine box_event ?hg (N := 3) ?hd (cs := #[.int .i64 0]) (t := 3) ?hr ?_; (case hd => rfl); (case hg => rfl); (case hr => first | (go_simp; done) | (go_simp; rfl)); intro ba hg w2 hbox hb; have G1 := Aside0.mk hg; have B1 := Aside0.mk hbox; have L0 := Aside0.mk (blk_lt B0.out); have n0 := Aside0.mk (blk_below B0.out hb); have n1 := Aside0.mk (below_step BL.out hb); clear hg hbox hb B0 BL; have B0 := n0; have BL := n1; clear n0 n1) | ((with_reducible refine gate_dst (N := 4) rfl ?_); (try (refine gate_guard (by rfl) ?_; dsimp only)); refine box_event ?hg (N := 4) ?hd (cs := #[.int .i64 0]) (t := 29) ?hr ?_; (case hd => rfl); (case hg => rfl); (case hr => first | (go_simp; done) | (go_simp; rfl)); intro be hg w3 hbox hb; have G2 := Aside0.mk hg; have B2 := Aside0.mk hbox; have L1 := Aside0.mk (blk_lt B1.out); have n0 := Aside0.mk (blk_below B0.out hb); have n2 := Aside0.mk (blk_below B1.out hb); have n1 := Aside0.mk (below_step BL.out hb); clear hg hbox hb B0 BL B1; have B0 := n0; have BL := n1; have B1 := n2; clear n0 n1 n2; have hst := fun c => Kd.C_string (P := Try.prog) (c := c) Try.underlying27 Try.underlying5 Try.underlying9 (Kd.C_below HR.out BL.out); rw [ES.out] at hst) | ((with_reducible refine gate_dst (N := 15) rfl ?_); (try (refine gate_guard (by rfl) ?_; dsimp only)); refine box_event ?hg (N := 15) ?hd (cs := #[.string s, .int .i64 0]) (t := 47) ?hr ?_; (case hd => rfl); (case hg => rfl); (case hr => first | (go_simp; done) | (go_simp; rfl)); intro g hg w4 hbox hb; have G3 := Aside0.mk hg; have B3 := Aside0.mk hbox; have L2 := Aside0.mk (blk_lt B2.out); have HT : Aside0 (Toks w w4 bo ba be g s 0 [] (.slice none 0 0)) := ⟨⟨blk_below B0.out hb, blk_below B1.out hb, blk_below B2.out hb, B3.out, Kd.R_nil _ _ _ _ _, below_step BL.out hb⟩⟩; have HP : Aside0 (Apart4 w bo ba be g) := ⟨⟨by rw [G0.out]; exact Nat.le_refl _, by rw [G1.out]; exact L0.out, by rw [G2.out]; exact L1.out, by rw [G3.out]; exact L2.out⟩⟩; clear hg hbox hb B0 B1 B2 B3 BL hst; have hc0 := HT.out.x.s; have hc1 := HT.out.x.i; have hd0 := (blk_cell HT.out.o 0).trans rfl; have hz0 := blk_frozen HT.out.o 0) | (go_at_call 27; with_reducible refine (skip_calls k s g 0 i0 HS.out H00.out _ ?lx HSK.out).mono ?_; (case lx => exact (by repeat (first | (with_reducible first | exact HT.out.x | apply Lx.drewN | apply Lx.drew)))); rintro e wk ⟨rfl, hx, hk⟩; have HT2 := Aside0.mk (Toks.lk (by repeat (first | (with_reducible first | exact HT.out | apply Toks.drewN | apply Toks.drew))) HP.out hk hx); clear hx hk HT; have HT := HT2; clear HT2; have hc0 := HT.out.x.s; have hc1 := HT.out.x.i; have hd0 := (blk_cell HT.out.o 0).trans rfl; have hz0 := blk_frozen HT.out.o 0))
      go_loopg [] k (fun kq wr => ∃ (i : Nat) (out : List S33) (v : Value), Aside0 (out.length ≤ 65536) ∧ Aside0 (i ≤ s.size) ∧ Aside0 (token_Tokens.l0 kq s i out = some r) ∧ Aside0 (Toks w wr bo ba be g s i out v))
      case atStart => exact ⟨i0, [], _, ⟨Nat.zero_le _⟩, HI0, HLP, ⟨by repeat (first | (with_reducible first | exact HT.out | apply Toks.drewN | apply Toks.drew))⟩⟩
      case round =>
        clear HLP HI0 HSK HT hc0 hc1 hd0 hz0
        obtain ⟨i, out, v, HOL, HI, HF, HT⟩ := hrel
        obtain ⟨A1, cc1, rfl⟩ := Kd.R_slice HT.out.r
        have hc0 := HT.out.x.s
        have hc1 := HT.out.x.i
        have hd0 := (blk_cell HT.out.o 0).trans rfl
        have hz0 := blk_frozen HT.out.o 0
        cases gk with
        | zero => exact absurd HF.out (by simp [token_Tokens.l0])
        | succ k2 =>
          have hf := HF.out
          have hs := HS.out
          clear HF
          unfold token_Tokens.l0 at hf
          by_cases hlt : i < s.size
          · rw [if_pos hlt] at hf
            by_cases hol : out.length < 65536
            · rw [if_pos hol] at hf
              obtain ⟨⟨kd, tx, nm, j⟩, hw, hf⟩ := Option.bind_eq_some_iff.mp hf
              have HW := Aside0.mk hw
              clear hw
              try dsimp only at hf
              by_cases hj : j ≤ s.size
              · rw [if_pos hj] at hf
                obtain ⟨j2, hsk, hf⟩ := Option.bind_eq_some_iff.mp hf
                have HSK := Aside0.mk hsk
                clear hsk
                by_cases hj2 : j2 ≤ s.size
                · rw [if_pos hj2] at hf
                  have HF := Aside0.mk hf
                  have HJ := Aside0.mk hj
                  have HJ2 := Aside0.mk hj2
                  have HLIM := Aside0.mk hol
                  have q1 : (((i : Nat) : Int) < (s.size : Int)) = True := eq_true (by omega)
                  have q2 : decide (((i : Nat) : Int) < (s.size : Int)) = true := decide_eq_true (by omega)
                  have q3 : decide (i < s.size) = true := decide_eq_true hlt
                  have p3 : decide ((out.length : Int) ≥ 65536) = false := decide_eq_false (by omega)
                  have p4 : decide (65536 ≤ (out.length : Int)) = false := decide_eq_false (by omega)
                  clear hf hj hj2 hol hlt hs
                  go_wp2
                  refine wp_region_quiet_lit (by kernel_rfl) (by kernel_rfl) ?_
                  repeat (go_big_quiet_step (fail))
                  refine wpQuiet_nil ?_
                  intro _ hw'
                  obtain ⟨nq, hw''⟩ := hw'
                  subst hw''
                  go_upto_region 12 with (first | (go_at_call 28; with_reducible refine (word_calls k2 s g i j kd tx nm HS.out _ ?lx HW.out).mono ?_; (case lx => exact (by repeat (first | (with_reducible first | exact HT.out.x | apply Lx.drewN | apply Lx.drew)))); rintro e wd ⟨rfl, hx, hk⟩; have HT2 := Aside0.mk (Toks.lk (by repeat (first | (with_reducible first | exact HT.out | apply Toks.drewN | apply Toks.drew))) HP.out hk hx); clear hx hk HT hc0 hc1 hd0 hz0; have HT := HT2; clear HT2; have hc0 := HT.out.x.s; have hc1 := HT.out.x.i; have hd0 := (blk_cell HT.out.o 0).trans rfl; have hz0 := blk_frozen HT.out.o 0) | ((with_reducible refine gate_dst (N := 7) rfl ?_); (try (refine gate_guard (by rfl) ?_; dsimp only)); refine box_event ?hg (N := 7) ?hd (cs := #[.int .i64 0, .int .i64 0, .string (⟨#[]⟩ : ByteArray), .string (⟨#[]⟩ : ByteArray)]) (t := 33) ?hr ?_; (case hd => rfl); (case hg => rfl); (case hr => first | (go_simp; done) | (go_simp; rfl)); intro bt hg w7 hbox hb; have G7 := Aside0.mk hg; have K7 := Aside0.mk (show Tk w7 bt 0 0 ⟨#[]⟩ ⟨#[]⟩ from hbox); have LT0 := Aside0.mk (show bo < bt by rw [hg]; exact blk_lt HT.out.o); have LT1 := Aside0.mk (show ba < bt by rw [hg]; exact blk_lt HT.out.a); have LT2 := Aside0.mk (show be < bt by rw [hg]; exact blk_lt HT.out.e); have LT3 := Aside0.mk (show g < bt by rw [hg]; exact blk_lt HT.out.x); have LT4 := Aside0.mk (show (Value.slice A1 out.length cc1).ownBlock ≠ some bt from fun e => by have h1 := Kd.R_lt HT.out.r _ e; rw [hg] at h1; exact Nat.lt_irrefl _ h1); have LT5 := Aside0.mk (show w.heap.size ≤ bt by rw [hg]; exact below_size HT.out.b); have HT2 := Aside0.mk (Toks.below HT.out hb); clear hg hbox hb HT hc0 hc1 hd0 hz0; have HT := HT2; clear HT2; have he0 := LT0.out; have hne : bo ≠ bt := Nat.ne_of_lt LT0.out; have hne2 : bt ≠ bo := Nat.ne_of_gt LT0.out; have hc0 := HT.out.x.s; have hc1 := HT.out.x.i; have hd0 := (blk_cell HT.out.o 0).trans rfl; have hz0 := blk_frozen HT.out.o 0; have ht0 := K7.out.c0; have ht1 := K7.out.c1; have ht2 := K7.out.c2; have ht3 := K7.out.c3; have hf0 := K7.out.fz 0; have hf1 := K7.out.fz 1; have hf2 := K7.out.fz 2; have hf3 := K7.out.fz 3))
                  have HT8 : Aside0 (Toks w ((((w7.setCell ⟨bt, 0, none⟩ (.int .i64 kd)).setCell ⟨bt, 1, none⟩ (.int .i64 (i : Int))).setCell ⟨bt, 2, none⟩ (.string tx)).setCell ⟨bt, 3, none⟩ (.string nm)) bo ba be g s j out (.slice A1 out.length cc1)) := ⟨(Toks.far (Toks.far (Toks.far (Toks.far HT.out LT5.out (Nat.ne_of_lt LT0.out) (Nat.ne_of_lt LT1.out) (Nat.ne_of_lt LT2.out) (Nat.ne_of_lt LT3.out) LT4.out _ _) LT5.out (Nat.ne_of_lt LT0.out) (Nat.ne_of_lt LT1.out) (Nat.ne_of_lt LT2.out) (Nat.ne_of_lt LT3.out) LT4.out _ _) LT5.out (Nat.ne_of_lt LT0.out) (Nat.ne_of_lt LT1.out) (Nat.ne_of_lt LT2.out) (Nat.ne_of_lt LT3.out) LT4.out _ _) LT5.out (Nat.ne_of_lt LT0.out) (Nat.ne_of_lt LT1.out) (Nat.ne_of_lt LT2.out) (Nat.ne_of_lt LT3.out) LT4.out _ _)⟩
                  have K8 : Aside0 (Tk ((((w7.setCell ⟨bt, 0, none⟩ (.int .i64 kd)).setCell ⟨bt, 1, none⟩ (.int .i64 (i : Int))).setCell ⟨bt, 2, none⟩ (.string tx)).setCell ⟨bt, 3, none⟩ (.string nm)) bt kd (i : Int) tx nm) := ⟨Tk.set3 (Tk.set2 (Tk.set1 (Tk.set0 K7.out _) _) _) _⟩
                  clear HT K7 hc0 hc1 hd0 hz0 ht0 ht1 ht2 ht3 hf0 hf1 hf2 hf3 he0
                  generalize ((((w7.setCell ⟨bt, 0, none⟩ (.int .i64 kd)).setCell ⟨bt, 1, none⟩ (.int .i64 (i : Int))).setCell ⟨bt, 2, none⟩ (.string tx)).setCell ⟨bt, 3, none⟩ (.string nm)) = w8 at HT8 K8 ⊢
                  have hd0 := (blk_cell HT8.out.o 0).trans rfl
                  have hz0 := blk_frozen HT8.out.o 0
                  have ht0 := K8.out.c0
                  have ht1 := K8.out.c1
                  have ht2 := K8.out.c2
                  have ht3 := K8.out.c3
                  go_wp2_with (first | ((with_reducible refine gate_builtin (b := .append) (xs := #[.tmp 42, .tmp 44]) rfl ?_); at_builtin; refine Kd.R_append k33 (w0 := w) w.heap.size rfl (.tmp 42) (.tmp 44) 28 33 (.agg #[.int .i64 0, .int .i64 0, .string (⟨#[]⟩ : ByteArray), .string (⟨#[]⟩ : ByteArray)]) 48 rfl Try.underlying28 infoT rfl (by decide) (by omega) (.slice A1 out.length cc1) out ⟨kd, (i : Int), tx, nm⟩ [.int .i64 kd, .int .i64 (i : Int), .string tx, .string nm] (fun k => k ≠ bo ∧ k ≠ ba ∧ k ≠ be ∧ k ≠ g) (fun _ => False) rfl rfl ?aP (fun _ hk => hk.elim) ?aF ?aO ?aB ?aS ?aL ?_; (case aP => exact k33_mkM _ _ _ ⟨kd, (i : Int), tx, nm⟩); (case aB => exact HT8.out.b); (case aF => exact (fun k hk => by have := blk_lt HT8.out.o; have := blk_lt HT8.out.a; have := blk_lt HT8.out.e; have := blk_lt HT8.out.x; exact ⟨by omega, by omega, by omega, by omega⟩)); (case aO => exact HT8.out.r); (case aS => exact (below_size HT8.out.b)); (case aL => have := HLIM.out; omega); intro v1 W9 ho hb hg hat; obtain ⟨A2, cc2, rfl⟩ := Kd.R_slice ho; rw [List.length_append, List.length_singleton] at ho; have HT := Aside0.mk (Toks.set HT8.out HP.out hg ho hb); have hn0 : some bo ≠ (Value.slice A1 out.length cc1).ownBlock := fun e => (HT8.out.r.1 bo e.symm).1 rfl; have hz9 := blk_frozen (blk_grown HT8.out.o hg hn0) 0; have hy9 := (blk_cell (blk_grown HT8.out.o hg hn0) 0).trans rfl; clear ho hb hg hat hn0) | (go_at_call 27; with_reducible refine (skip_calls k2 s g j j2 HS.out HJ.out _ ?lx HSK.out).mono ?_; (case lx => exact (by repeat (first | (with_reducible first | exact HT.out.x | apply Lx.drewN | apply Lx.drew)))); rintro e wk ⟨rfl, hx, hk⟩; have HT2 := Aside0.mk (Toks.lk (by repeat (first | (with_reducible first | exact HT.out | apply Toks.drewN | apply Toks.drew))) HP.out hk hx); clear hx hk HT; have HT := HT2; clear HT2; have hc0 := HT.out.x.s; have hc1 := HT.out.x.i; have hd0 := (blk_cell HT.out.o 0).trans rfl; have hz0 := blk_frozen HT.out.o 0))
                  go_roundg k2
                  case measure => omega
                  case rel => exact ⟨j2, out ++ [⟨kd, (i : Int), tx, nm⟩], _, ⟨by rw [List.length_append, List.length_singleton]; have := HLIM.out; omega⟩, HJ2, HF, ⟨by repeat (first | (with_reducible first | exact HT.out | apply Toks.drewN | apply Toks.drew))⟩⟩
                · rw [if_neg hj2] at hf
                  cases hf
              · rw [if_neg hj] at hf
                cases hf
            · rw [if_neg hol] at hf
              cases hf
          · rw [if_neg hlt] at hf
            obtain rfl := Option.some.inj hf
            have HLIM := Aside0.mk (show out.length < 1000000 by have := HOL.out; omega)
            have q1 : (((i : Nat) : Int) < (s.size : Int)) = False := eq_false (by omega)
            have q2 : decide (((i : Nat) : Int) < (s.size : Int)) = false := decide_eq_false (by omega)
            have q3 : decide (i < s.size) = false := decide_eq_false hlt
            clear hf hlt hs
            go_wp2
            refine wp_region_quiet_lit (by kernel_rfl) (by kernel_rfl) ?_
            repeat (go_big_quiet_step (fail))
            refine wpQuiet_nil ?_
            intro _ hw'
            obtain ⟨nq, hw''⟩ := hw'
            subst hw''
            go_wp2
            refine Code.wp_mono QN.to ?_
            have HT3 : Aside0 (Toks w (wr.drewN nq).drew bo ba be g s i out (.slice A1 out.length cc1)) := ⟨(HT.out.drewN nq).drew⟩
            refine start_ (n := 12) (S := (fun w' => w'.cell? ⟨bo, 0, none⟩ = some (.slice A1 out.length cc1) ∧ w'.cell? ⟨g, 0, none⟩ = some (.string s))) (ds := [9, 10, 11]) #[false, false, false, false, false, false, false, false, false, false, false, false] (by kernel_rfl) rfl rfl ⟨(blk_cell HT3.out.o 0).trans rfl, HT3.out.x.s⟩ (fun hHeld => ?_)
            refine with_tabW token_Tokens.tab13 token_Tokens.bits13 (fun HT_ HW_ => ?_)
            generalize (wr.drewN nq).drew = W3 at HT3 hHeld ⊢
            refine take_ (i := 0) (N := (some 46)) (v := ?_) (a' := ?_) #[true, false, false, false, false, false, false, false, false, false, false, false] rfl rfl (take_ofW HT_.out HW_.out (by kernel_rfl)) (fun _ _ _ h => h) (Or.inl ⟨by rfl, ?_⟩) hHeld ?_ ?_
            rotate_left
            ·rintro w' ⟨s0, s1⟩
             go_simp
             with_reducible rfl
            rotate_left
            ·simp only [Act.put, List.setIfInBounds_toArray, List.set_cons_zero, List.set_cons_succ, i64_w, i32_w]
             rfl
            refine pure_ (i := 1) (N := (some 47)) (v := ?_) (a' := ?_) #[true, true, false, false, false, false, false, false, false, false, false, false] rfl rfl (any_of HT_.out (by kernel_rfl)) (fun _ _ _ h => h) (Or.inl ⟨by rfl, ?_⟩) ?_ ?_
            rotate_left
            ·intro w'
             go_simp
             with_reducible rfl
            rotate_left
            ·simp only [Act.put, List.setIfInBounds_toArray, List.set_cons_zero, List.set_cons_succ, i64_w, i32_w]
             rfl
            refine pure_ (i := 2) (N := (some 48)) (v := ?_) (a' := ?_) #[true, true, true, false, false, false, false, false, false, false, false, false] rfl rfl (any_of HT_.out (by kernel_rfl)) (fun _ _ _ h => h) (Or.inl ⟨by rfl, ?_⟩) ?_ ?_
            rotate_left
            ·intro w'
             go_simp
             with_reducible rfl
            rotate_left
            ·simp only [Act.put, List.setIfInBounds_toArray, List.set_cons_zero, List.set_cons_succ, i64_w, i32_w]
             rfl
            refine pure_ (i := 3) (N := (some 49)) (v := ?_) (a' := ?_) #[true, true, true, true, false, false, false, false, false, false, false, false] rfl rfl (any_of HT_.out (by kernel_rfl)) (fun _ _ _ h => h) (Or.inl ⟨by rfl, ?_⟩) ?_ ?_
            rotate_left
            ·intro w'
             go_simp
             with_reducible rfl
            rotate_left
            ·simp only [Act.put, List.setIfInBounds_toArray, List.set_cons_zero, List.set_cons_succ, i64_w, i32_w]
             rfl
            refine take_ (i := 4) (N := (some 50)) (v := ?_) (a' := ?_) #[true, true, true, true, true, false, false, false, false, false, false, false] rfl rfl (take_ofW HT_.out HW_.out (by kernel_rfl)) (fun _ _ _ h => h) (Or.inl ⟨by rfl, ?_⟩) hHeld ?_ ?_
            rotate_left
            ·rintro w' ⟨s0, s1⟩
             go_simp
             with_reducible rfl
            rotate_left
            ·simp only [Act.put, List.setIfInBounds_toArray, List.set_cons_zero, List.set_cons_succ, i64_w, i32_w]
             rfl
            refine pure_ (i := 5) (N := (some 51)) (v := ?_) (a' := ?_) #[true, true, true, true, true, true, false, false, false, false, false, false] rfl rfl (any_of HT_.out (by kernel_rfl)) (fun _ _ _ h => h) (Or.inl ⟨by rfl, ?_⟩) ?_ ?_
            rotate_left
            ·intro w'
             go_simp
             with_reducible rfl
            rotate_left
            ·simp only [Act.put, List.setIfInBounds_toArray, List.set_cons_zero, List.set_cons_succ, i64_w, i32_w]
             rfl
            refine pure_ (i := 6) (N := (some 52)) (v := ?_) (a' := ?_) #[true, true, true, true, true, true, true, false, false, false, false, false] rfl rfl (any_of HT_.out (by kernel_rfl)) (fun _ _ _ h => h) (Or.inl ⟨by rfl, ?_⟩) ?_ ?_
            rotate_left
            ·intro w'
             go_simp
             with_reducible rfl
            rotate_left
            ·simp only [Act.put, List.setIfInBounds_toArray, List.set_cons_zero, List.set_cons_succ, i64_w, i32_w]
             rfl
            refine one_ (i := 7) (N := (some 53)) #[true, true, true, true, true, true, true, true, false, false, false, false] rfl rfl (one_of HT_.out (by kernel_rfl)) (by decide) (fun K hK => ?_)
            refine value_ (w1 := ?_) (v := ?_) (by rfl) rfl ?_ ?_
            rotate_left 2
            ·go_simp
             constructor
             ·rfl
             ·rfl
            refine hK.out _ _ ⟨(blk_cell (blk_alloc HT3.out.o _) 0).trans rfl, (Lx.below HT3.out.x (below_alloc (Below.refl _ _) _)).s⟩ (fun hHeld => ?_)
            clear hK K
            refine norm_ (a' := ?_) ?_ ?_
            rotate_left
            ·show Act.put _ (some 53) _ = _
             simp only [Act.put, List.setIfInBounds_toArray, List.set_cons_zero, List.set_cons_succ, i64_w, i32_w]
             rfl
            refine one_ (i := 8) (N := (some 54)) #[true, true, true, true, true, true, true, true, true, false, false, false] rfl rfl (one_of HT_.out (by kernel_rfl)) (by decide) (fun K hK => ?_)
            refine Kd.R_append_step k33 (w0 := w) w.heap.size (by rfl) (.tmp 46) (.tmp 53) 28 33 (.agg #[.int .i64 0, .int .i64 0, .string (⟨#[]⟩ : ByteArray), .string (⟨#[]⟩ : ByteArray)]) 48 rfl Try.underlying28 infoT rfl (by decide) (by omega) (.slice A1 out.length cc1) out ⟨8, (s.size : Int), ⟨#[]⟩, ⟨#[]⟩⟩ [.int .i64 8, .int .i64 (s.size : Int), .string (⟨#[]⟩ : ByteArray), .string (⟨#[]⟩ : ByteArray)] (fun k => k ≠ bo ∧ k ≠ ba ∧ k ≠ be ∧ k ≠ g) (fun _ => False) rfl rfl ?aP (fun _ hk => hk.elim) ?aF ?aO ?aB ?aS ?aL ?_
            (case aP => exact k33_mkM _ _ _ ⟨8, (s.size : Int), ⟨#[]⟩, ⟨#[]⟩⟩)
            (case aB => exact HT3.out.b)
            (case aF => exact (fun k hk => by have := blk_lt HT3.out.o; have := blk_lt HT3.out.a; have := blk_lt HT3.out.e; have := blk_lt HT3.out.x; exact ⟨by omega, by omega, by omega, by omega⟩))
            (case aO => exact HT3.out.r)
            (case aS => exact (below_size HT3.out.b))
            (case aL => have := HLIM.out; omega)
            intro v1 W4 ho hb hg hat
            obtain ⟨A2, cc2, rfl⟩ := Kd.R_slice ho
            rw [List.length_append, List.length_singleton] at ho
            have HO := Aside0.mk ho
            have HT4 := Aside0.mk (Toks.set HT3.out HP.out hg HO.out hb)
            have hn0 : some bo ≠ (Value.slice A1 out.length cc1).ownBlock := fun e => (HT3.out.r.1 bo e.symm).1 rfl
            have hn1 : some ba ≠ (Value.slice A1 out.length cc1).ownBlock := fun e => (HT3.out.r.1 ba e.symm).2.1 rfl
            have hn2 : some be ≠ (Value.slice A1 out.length cc1).ownBlock := fun e => (HT3.out.r.1 be e.symm).2.2.1 rfl
            have hn3 : some g ≠ (Value.slice A1 out.length cc1).ownBlock := fun e => (HT3.out.r.1 g e.symm).2.2.2 rfl
            have HB0 := Aside0.mk (blk_grown HT3.out.o hg hn0)
            have HB1 := Aside0.mk (blk_grown HT3.out.a hg hn1)
            have HB2 := Aside0.mk (blk_grown HT3.out.e hg hn2)
            have HB3 : Aside0 (Lx W4 g s i) := ⟨blk_grown HT3.out.x hg hn3⟩
            have hz0 := blk_frozen HB0.out 0
            have hz1 := blk_frozen HB1.out 0
            have hz2 := blk_frozen HB2.out 0
            have hy0 : W4.cell? ⟨bo, 0, none⟩ = some (.slice A1 out.length cc1) := (blk_cell HB0.out 0).trans rfl
            have hy1 : W4.cell? ⟨ba, 0, none⟩ = some (.int .i64 0) := (blk_cell HB1.out 0).trans rfl
            have hy2 : W4.cell? ⟨be, 0, none⟩ = some (.int .i64 0) := (blk_cell HB2.out 0).trans rfl
            have e0 : ba ≠ bo := by have := HP.out.l1; omega
            have e1 : be ≠ bo := by have := HP.out.l1; have := HP.out.l2; omega
            have e2 : be ≠ ba := by have := HP.out.l2; omega
            have e3 : bo ≠ ba := e0.symm
            have e4 : bo ≠ be := e1.symm
            have e5 : ba ≠ be := e2.symm
            clear hb hg hat hn0 hn1 hn2 hn3 ho
            refine hK.out _ _ ⟨(blk_cell HB0.out 0).trans rfl, HB3.out.s⟩ (fun hHeld => ?_)
            clear hK K
            refine norm_ (a' := ?_) ?_ ?_
            rotate_left
            ·show Act.put _ (some 54) _ = _
             simp only [Act.put, List.setIfInBounds_toArray, List.set_cons_zero, List.set_cons_succ, i64_w, i32_w]
             rfl
            refine last_ (i := 9) (N := none) #[true, true, true, true, true, true, true, true, true, true, false, false] rfl rfl (one_of HT_.out (by kernel_rfl)) (by decide) (fun K hK => ?_)
            refine skip_ (w1 := ?_) (by rfl) rfl ?_ ?_
            rotate_left
            ·go_simp
             rfl
            refine hK.out _ _ ?_
            clear hK K
            refine last_ (i := 10) (N := none) #[true, true, true, true, true, true, true, true, true, true, true, false] rfl rfl (one_of HT_.out (by kernel_rfl)) (by decide) (fun K hK => ?_)
            refine skip_ (w1 := ?_) (by rfl) rfl ?_ ?_
            rotate_left
            ·go_simp
             rfl
            refine hK.out _ _ ?_
            clear hK K
            refine last_ (i := 11) (N := none) #[true, true, true, true, true, true, true, true, true, true, true, true] rfl rfl (one_of HT_.out (by kernel_rfl)) (by decide) (fun K hK => ?_)
            refine skip_ (w1 := ?_) (by rfl) rfl ?_ ?_
            rotate_left
            ·go_simp
             rfl
            refine hK.out _ _ ?_
            clear hK K
            refine done_ (done_of HT_.out (by kernel_rfl)) ?_
            dsimp only [QN]
            go_wp2
            refine leaves_cons (f := 26) (args := #[.pointer (some ⟨bo, 0, none⟩), .pointer (some ⟨ba, 0, none⟩), .pointer (some ⟨be, 0, none⟩)]) (by simp) (by simp [go_sem]) ?_
            refine (tokens_idle bo ba be _).mono ?_
            rintro e u' w'' ⟨rfl, rfl, rfl⟩
            obtain ⟨F0, F1, F2, FR, FB⟩ := Toks.fin HT4.out HP.out
            refine ⟨.tuple #[.slice A2 (out.length + 1) cc2, .int .i64 0, .int .i64 0], ?_, ⟨_, rfl, FR, FB⟩⟩
            simp [results, Try.results13, go_sem, F0, F1, F2]
    · rw [if_neg hi0] at h
      cases h
  · rw [if_neg hl] at h
    cases h
end Go.Proofs.Ytfccpnpocfjbcaa.Giv
