/- LineBackCardSaid, part 5 of 8: contracts of the program's functions, the words that they use, and the plain laws on what they compute. Conditions: none beyond what the statements say. -/
import Derived.Test.YtofdhdafabmhmaaDoorKLa0
import Derived.Test.YtofdhdafabmhmaaDoorKLa2
import Derived.Test.YtofdhdafabmhmaaDoorKLa3
import Derived.BigRegion
import Derived.BigQuiet
import Derived.Deep.QuietTactic
import Derived.Tactics
import Derived.Tactics2
import Derived.Defers
import Derived.Recover
import Derived.WideShapes
import Derived.Lib.ConvBytes
set_option linter.unusedVariables false
set_option linter.unusedSimpArgs false
section
namespace Go.Proofs.YtofdhdafabmhmaaDoor.Giv
open Go.RowKit Go.Proofs.YtofdhdafabmhmaaDoorW.PrintWords Go.Proofs.YtofdhdafabmhmaaDoorW.PrintLast Go.Proofs.YtofdhdafabmhmaaDoorW.PrintMore Go.Proofs.YtofdhdafabmhmaaDoor.PLa
open Go.Proofs.YtofdhdafabmhmaaDoor.Opn Go.BigFrame
/-- The words of bytes, from a place on. -/
def token_Tokens.l0 : Nat → ByteArray → Nat → List S67 → Option (List S67)
  | 0, _, _, _ => none
  | k + 1, s, i, out => if i < s.size then (if out.length < 65536 then ((wordF k s i).bind fun t => if t.2.2.2 ≤ s.size then ((skipF k s t.2.2.2).bind fun j => if j ≤ s.size then token_Tokens.l0 k s j (out ++ [⟨t.1, (i : Int), t.2.1, t.2.2.1⟩]) else none) else none) else none) else some (out ++ [⟨8, (s.size : Int), ⟨#[]⟩, ⟨#[]⟩⟩])
def token_Tokens.f (k : Nat) (l0 : List Int) : Option (List S67 × Int × Int) := if l0.length ≤ 262144 then ((skipF k (strOfNums l0) 0).bind fun i => if i ≤ (strOfNums l0).size then ((token_Tokens.l0 k (strOfNums l0) i []).bind fun r => some (r, 0, 0)) else none) else none
theorem token_Tokens.mono_l : ∀ k, (∀ s i out, LeO (token_Tokens.l0 k s i out) (token_Tokens.l0 (k + 1) s i out))
  | 0 => fun _ _ _ r h => by simp [token_Tokens.l0] at h
  | k + 1 => by
    have ih0 := token_Tokens.mono_l k
    intro s i out
    unfold token_Tokens.l0
    refine LeO.ite (LeO.ite (LeO.bind (wordF.mono _ _ _) (fun t => LeO.ite (LeO.bind (skipF.mono _ _ _) (fun j => LeO.ite (ih0 _ _ _) (LeO.none _))) (LeO.none _))) (LeO.none _)) (LeO.refl _)
theorem token_Tokens.mono : ∀ l0 k, LeO (token_Tokens.f k l0) (token_Tokens.f (k + 1) l0) := by
  intro l0 k
  unfold token_Tokens.f
  refine LeO.ite (LeO.bind (skipF.mono _ _ _) (fun i => LeO.ite (LeO.bind (token_Tokens.mono_l _ _ _ _) (fun _ => LeO.refl _)) (LeO.none _))) (LeO.none _)
/-- The blocks of Tokens: its three results' variables, and the lexer. -/
structure Toks (w w1 : World) (bo ba be g : Nat) (s : ByteArray) (i : Nat) (out : List S67) (v : Value) : Prop where
  o : w1.heap[bo]? = some (.cells #[v] 35 (0, 0))
  a : w1.heap[ba]? = some (.cells #[.int .i64 0] 3 (0, 0))
  e : w1.heap[be]? = some (.cells #[.int .i64 0] 37 (0, 0))
  x : Lx w1 g s i
  r : Kd.R k67 67 w1 w.heap.size (fun k => k ≠ bo ∧ k ≠ ba ∧ k ≠ be ∧ k ≠ g) v out
  b : Below w.heap.size w w1
structure Apart4 (w : World) (bo ba be g : Nat) : Prop where
  l0 : w.heap.size ≤ bo
  l1 : bo < ba
  l2 : ba < be
  l3 : be < g
section
variable {w w1 w2 : World} {bo ba be g i : Nat} {s : ByteArray} {out : List S67} {v : Value}
theorem Toks.below (h : Toks w w1 bo ba be g s i out v) (hb : Below w1.heap.size w1 w2) : Toks w w2 bo ba be g s i out v :=
  ⟨blk_below h.o hb, blk_below h.a hb, blk_below h.e hb, h.x.below hb, Kd.R_below h.r hb, below_step h.b hb⟩
theorem Toks.lk (h : Toks w w1 bo ba be g s i out v) (hp : Apart4 w bo ba be g) {j : Nat} (hk : Lk g w1 w2) (hx : Lx w2 g s j) : Toks w w2 bo ba be g s j out v :=
  ⟨hk.at h.o (by have := hp.l1; have := hp.l2; have := hp.l3; omega), hk.at h.a (by have := hp.l2; have := hp.l3; omega), hk.at h.e (by have := hp.l3; omega), hx,
    Kd.R_step h.r (fun k hok hlt => hk.heap k hlt hok.2.2.2), Lk.below h.b hk (by have := hp.l0; have := hp.l1; have := hp.l2; have := hp.l3; omega) (below_size h.b)⟩
theorem Toks.drewN (h : Toks w w1 bo ba be g s i out v) (n : Nat) : Toks w (w1.drewN n) bo ba be g s i out v := h.below ⟨rfl, rfl, rfl, Nat.le_refl _, fun _ _ => rfl⟩
theorem Toks.drew (h : Toks w w1 bo ba be g s i out v) : Toks w w1.drew bo ba be g s i out v := h.below ⟨rfl, rfl, rfl, Nat.le_refl _, fun _ _ => rfl⟩
/-- A cell of a block that is neither of these, nor the row's. -/
theorem Toks.far (h : Toks w w1 bo ba be g s i out v) {b : Nat} (h0 : w.heap.size ≤ b) (h1 : bo ≠ b) (h2 : ba ≠ b) (h3 : be ≠ b) (h4 : g ≠ b) (h5 : v.ownBlock ≠ some b) (o : Nat) (u : Value) : Toks w (w1.setCell ⟨b, o, none⟩ u) bo ba be g s i out v :=
  ⟨blk_far h.o h1 _, blk_far h.a h2 _, blk_far h.e h3 _, h.x.far h4 _ _, Kd.R_mono (Kd.R_far (Kd.R_reok rfl h.r (ok := fun k => (k ≠ bo ∧ k ≠ ba ∧ k ≠ be ∧ k ≠ g) ∧ k ≠ b) (fun k hk => ⟨h.r.1 k hk, fun e => h5 (by rw [hk, e])⟩)) (fun k hk => hk.2) _) (fun _ hk => hk.1), below_set h.b h0⟩
theorem Toks.set (h : Toks w w1 bo ba be g s i out v) (hp : Apart4 w bo ba be g) {out' : List S67} {v' : Value} (hg : w1.grownBy w2 v.ownBlock) (hr : Kd.R k67 67 w2 w.heap.size (fun k => k ≠ bo ∧ k ≠ ba ∧ k ≠ be ∧ k ≠ g) v' out') (hb : Below w.heap.size w w2) :
    Toks w (w2.setCell ⟨bo, 0, none⟩ v') bo ba be g s i out' v' := by
  have n0 : some bo ≠ v.ownBlock := fun e => (h.r.1 bo e.symm).1 rfl
  have n1 : some ba ≠ v.ownBlock := fun e => (h.r.1 ba e.symm).2.1 rfl
  have n2 : some be ≠ v.ownBlock := fun e => (h.r.1 be e.symm).2.2.1 rfl
  have n3 : some g ≠ v.ownBlock := fun e => (h.r.1 g e.symm).2.2.2 rfl
  have hp1 := hp.l1
  have hp2 := hp.l2
  have hp3 := hp.l3
  refine ⟨blk_set (blk_grown h.o hg n0) 0 _, blk_far (blk_grown h.a hg n1) (by exact (by omega : ba ≠ bo)) _, blk_far (blk_grown h.e hg n2) (by exact (by omega : be ≠ bo)) _, ?_, Kd.R_far hr (fun k hk => hk.1) _, below_set hb hp.l0⟩
  have hx : Lx w2 g s i := blk_grown h.x hg n3
  exact hx.far (by omega : g ≠ bo) _ _
theorem Toks.fin (h : Toks w w1 bo ba be g s i out v) (hp : Apart4 w bo ba be g) :
    let W := ((w1.setCell ⟨ba, 0, none⟩ (.int .i64 0)).setCell ⟨be, 0, none⟩ (.int .i64 0))
    W.cell? ⟨bo, 0, none⟩ = some v ∧ W.cell? ⟨ba, 0, none⟩ = some (.int .i64 0) ∧ W.cell? ⟨be, 0, none⟩ = some (.int .i64 0) ∧ Kd.R k67 67 W w.heap.size (fun _ => True) v out ∧ Below w.heap.size w W := by
  have hp0 := hp.l0
  have hp1 := hp.l1
  have hp2 := hp.l2
  have h0 := blk_far (blk_far h.o (show bo ≠ ba by omega) (p := ⟨ba, 0, none⟩) (.int .i64 0)) (show bo ≠ be by omega) (p := ⟨be, 0, none⟩) (.int .i64 0)
  have h1 := blk_far (blk_set h.a 0 (.int .i64 0)) (show ba ≠ be by omega) (p := ⟨be, 0, none⟩) (.int .i64 0)
  have h2 := blk_set (blk_far h.e (show be ≠ ba by omega) (p := ⟨ba, 0, none⟩) (.int .i64 0)) 0 (.int .i64 0)
  exact ⟨(blk_cell h0 0).trans rfl, (blk_cell h1 0).trans rfl, (blk_cell h2 0).trans rfl, Kd.R_mono (Kd.R_far (Kd.R_far h.r (fun k hk => hk.2.1) _) (fun k hk => hk.2.2.1) _) (fun _ _ => trivial), below_set (below_set h.b (by omega)) (by omega)⟩
end
/-- What comes of a region that ends as it should. -/
def QN (Q : Exit → Act → World → Prop) : Exit → Act → World → Prop
  | .normal, a, w => Q .normal a w
  | _, _, _ => False
theorem QN.to {Q : Exit → Act → World → Prop} : ∀ e a w, QN Q e a w → Q e a w := by
  intro e a w h
  cases e <;> first | exact h | exact h.elim
theorem infoT : (Tryd.prog.info? 67).map (fun i => (i.zero, i.size, i.bytes)) = some (some (.agg #[.int .i64 0, .int .i64 0, .string ⟨#[]⟩, .string ⟨#[]⟩]), 4, 48) := by kernel_rfl
theorem tokens_idle (bo ba be : Nat) (w : World) :
    CallsD Tryd.prog 65 #[.pointer (some ⟨bo, 0, none⟩), .pointer (some ⟨ba, 0, none⟩), .pointer (some ⟨be, 0, none⟩)] .returning w fun e u' w' => e = .returned (.tuple #[]) ∧ u' = .returning ∧ w' = w := by
  refine callsD_of_wpS Tryd.func65 rfl fun c₀ cs hu => ?_
  apply wpS_seq
  apply wpS_region
  simp [wpOpsS, go_sem, recoverD, hu, Tryd.ntmps65, Exit.thenS]
  apply wpS_seq
  apply wpS_region
  simp [wpOpsS, go_sem, recoverD, Tryd.ntmps65, Exit.thenS]
  refine wpS_cond (t := false) (by simp [Act.eval, Array.replicate]) ?_
  simp only [Bool.false_eq_true, if_false]
  refine wpS_of_wp (wp_skip ?_)
  cases c₀
  simp_all [bodyPostS, results, Tryd.results65]
def token_Tokens.T13 : Bool × List (List Nat × List Nat) := (true, [([], []), ([], []), ([1], [1]), ([2], [2]), ([3], [3]), ([4], [4]), ([5], [5]), ([6], [6]), ([0, 7], [0, 7]), ([8, 8, 0, 1, 2, 3, 4, 5, 6, 7, 8], [8]), ([9, 0, 1, 2, 3, 4, 5, 6, 7, 8, 9], []), ([10, 0, 1, 2, 3, 4, 5, 6, 7, 8, 9, 10], [])])
def token_Tokens.B13 : List Nat := [0, 0, 2, 6, 14, 30, 62, 126, 255, 511, 1023, 2047]
theorem token_Tokens.tab13 : rtab .any (opsOf Tryd.f36 13) = token_Tokens.T13 := by kernel_rfl
theorem token_Tokens.bits13 : waitsOk token_Tokens.T13.2 token_Tokens.B13 = true := by kernel_rfl
set_option maxHeartbeats 16000000 in
set_option maxRecDepth 100000 in
theorem token_Tokens.calls (k : Nat) (A0 : Option Addr) (c0 : Nat) (l0 : List Int) (r0 : List S67) (r1 r2 : Int) (w : World) (hr0 : Kd.C (Kd.int .u8) w A0 l0.length l0) (hc0 : l0.length ≤ c0) (h : token_Tokens.f k l0 = some (r0, r1, r2)) :
    Calls Tryd.prog 36 #[.slice A0 l0.length c0] w fun e w' => ∃ v0_ : Value, e = .returned (.tuple #[v0_, .int .i64 r1, .int .i64 r2]) ∧ Kd.R k67 67 w' w.heap.size (fun _ => True) v0_ r0 ∧ Below w.heap.size w w' := by
  have hmf : ∀ (fn : Fn) (first cap : Array Value) (w : World), (Instr.makeFunc fn first cap).run Tryd.prog w = .ok (.func fn first cap) w := fun _ _ _ _ => rfl
  have hu := Tryd.underlying111
  have hut := Tryd.underlying9
  have huT := Tryd.underlying67
  have HR := Aside0.mk hr0
  clear hr0
  unfold token_Tokens.f at h
  by_cases hl : l0.length ≤ 262144
  · rw [if_pos hl] at h
    obtain ⟨i0, hsk, h⟩ := Option.bind_eq_some_iff.mp h
    have hsz : (strOfNums l0).size = l0.length := by
      show ((l0.map fun n => UInt8.ofNat n.toNat).toArray).size = l0.length
      rw [List.size_toArray, List.length_map]
    obtain ⟨s, hs⟩ : ∃ s, strOfNums l0 = s := ⟨_, rfl⟩
    rw [hs] at h hsk hsz
    have ES := Aside0.mk hs
    by_cases hi0 : i0 ≤ s.size
    · rw [if_pos hi0] at h
      obtain ⟨r, hlp, h⟩ := Option.bind_eq_some_iff.mp h
      obtain ⟨rfl, rfl, rfl⟩ : r = r0 ∧ 0 = r1 ∧ 0 = r2 := by
        have h := Option.some.inj h
        simp only [Prod.mk.injEq] at h
        exact h
      clear h
      have HS := Aside0.mk (show s.size ≤ 140737488351232 by omega)
      have HSZ := Aside0.mk (show s.size ≤ 262144 by omega)
      have HSK := Aside0.mk hsk
      have HLP := Aside0.mk hlp
      have HI0 := Aside0.mk hi0
      have H00 := Aside0.mk (Nat.zero_le s.size)
      have p1 : decide ((l0.length : Int) > 262144) = false := decide_eq_false (by omega)
      have p2 : decide (262144 < (l0.length : Int)) = false := decide_eq_false (by omega)
      clear hsk hlp hi0 hs hsz hl
      go_enter_defers Tryd.func36, Tryd.ntmps36
      go_wp2_with (first | ((with_reducible refine gate_dst (N := 2) rfl ?_); (try (refine gate_guard (by rfl) ?_; dsimp only)); refine box_event ?hg (N := 2) ?hd (cs := #[.slice none 0 0]) (t := 35) ?hr ?_; (case hd => rfl); (case hg => rfl); (case hr => first | (go_simp; done) | (go_simp; rfl)); intro bo hg w1 hbox hb; have G0 := Aside0.mk hg; have B0 := Aside0.mk hbox; have BL := Aside0.mk hb; clear hg hbox hb) | ((with_reducible refine gate_dst (N := 3) rfl ?_); (try (refine gate_guard (by rfl) ?_; dsimp only)); refine box_event ?hg (N := 3) ?hd (cs := #[.int .i64 0]) (t := 3) ?hr ?_; (case hd => rfl); (case hg => rfl); (case hr => first | (go_simp; done) | (go_simp; rfl)); intro ba hg w2 hbox hb; have G1 := Aside0.mk hg; have B1 := Aside0.mk hbox; have L0 := Aside0.mk (blk_lt B0.out); have n0 := Aside0.mk (blk_below B0.out hb); have n1 := Aside0.mk (below_step BL.out hb); clear hg hbox hb B0 BL; have B0 := n0; have BL := n1; clear n0 n1) | ((with_reducible refine gate_dst (N := 4) rfl ?_); (try (refine gate_guard (by rfl) ?_; dsimp only)); refine box_event ?hg (N := 4) ?hd (cs := #[.int .i64 0]) (t := 37) ?hr ?_; (case hd => rfl); (case hg => rfl); (case hr => first | (go_simp; done) | (go_simp; rfl)); intro be hg w3 hbox hb; have G2 := Aside0.mk hg; have B2 := Aside0.mk hbox; have L1 := Aside0.mk (blk_lt B1.out); have n0 := Aside0.mk (blk_below B0.out hb); have n2 := Aside0.mk (blk_below B1.out hb); have n1 := Aside0.mk (below_step BL.out hb); clear hg hbox hb B0 BL B1; have B0 := n0; have BL := n1; have B1 := n2; clear n0 n1 n2; have hst := fun c => Kd.C_string (P := Tryd.prog) (c := c) Tryd.underlying63 Tryd.underlying5 Tryd.underlying9 (Kd.C_below HR.out BL.out); rw [ES.out] at hst) | ((with_reducible refine gate_dst (N := 15) rfl ?_); (try (refine gate_guard (by rfl) ?_; dsimp only)); refine box_event ?hg (N := 15) ?hd (cs := #[.string s, .int .i64 0]) (t := 111) ?hr ?_; (case hd => rfl); (case hg => rfl); (case hr => first | (go_simp; done) | (go_simp; rfl)); intro g hg w4 hbox hb; have G3 := Aside0.mk hg; have B3 := Aside0.mk hbox; have L2 := Aside0.mk (blk_lt B2.out); have HT : Aside0 (Toks w w4 bo ba be g s 0 [] (.slice none 0 0)) := ⟨⟨blk_below B0.out hb, blk_below B1.out hb, blk_below B2.out hb, B3.out, Kd.R_nil _ _ _ _ _, below_step BL.out hb⟩⟩; have HP : Aside0 (Apart4 w bo ba be g) := ⟨⟨by rw [G0.out]; exact Nat.le_refl _, by rw [G1.out]; exact L0.out, by rw [G2.out]; exact L1.out, by rw [G3.out]; exact L2.out⟩⟩; clear hg hbox hb B0 B1 B2 B3 BL hst; have hc0 := HT.out.x.s; have hc1 := HT.out.x.i; have hd0 := (blk_cell HT.out.o 0).trans rfl; have hz0 := blk_frozen HT.out.o 0) | (go_at_call 66; with_reducible refine (skip_calls k s g 0 i0 HS.out H00.out _ ?lx HSK.out).mono ?_; (case lx => exact (by repeat (first | (with_reducible first | exact HT.out.x | apply Lx.drewN | apply Lx.drew)))); rintro e wk ⟨rfl, hx, hk⟩; have HT2 := Aside0.mk (Toks.lk (by repeat (first | (with_reducible first | exact HT.out | apply Toks.drewN | apply Toks.drew))) HP.out hk hx); clear hx hk HT; have HT := HT2; clear HT2; have hc0 := HT.out.x.s; have hc1 := HT.out.x.i; have hd0 := (blk_cell HT.out.o 0).trans rfl; have hz0 := blk_frozen HT.out.o 0))
      go_loopg [] k (fun kq wr => ∃ (i : Nat) (out : List S67) (v : Value), Aside0 (out.length ≤ 65536) ∧ Aside0 (i ≤ s.size) ∧ Aside0 (token_Tokens.l0 kq s i out = some r) ∧ Aside0 (Toks w wr bo ba be g s i out v))
      case atStart => exact ⟨i0, [], _, ⟨Nat.zero_le _⟩, HI0, HLP, ⟨by repeat (first | (with_reducible first | exact HT.out | apply Toks.drewN | apply Toks.drew))⟩⟩
      case round =>
        clear HLP HI0 HSK HT hc0 hc1 hd0 hz0
        obtain ⟨i, out, v, HOL, HI, HF, HT⟩ := hrel
        obtain ⟨A1, cc1, rfl⟩ := Kd.R_slice HT.out.r
        have hc0 := HT.out.x.s
        have hc1 := HT.out.x.i
        have hd0 := (blk_cell HT.out.o 0).trans rfl
        have hz0 := blk_frozen HT.out.o 0
        cases gk with
        | zero => exact absurd HF.out (by simp [token_Tokens.l0])
        | succ k2 =>
          have hf := HF.out
          have hs := HS.out
          clear HF
          unfold token_Tokens.l0 at hf
          by_cases hlt : i < s.size
          · rw [if_pos hlt] at hf
            by_cases hol : out.length < 65536
            · rw [if_pos hol] at hf
              obtain ⟨⟨kd, tx, nm, j⟩, hw, hf⟩ := Option.bind_eq_some_iff.mp hf
              have HW := Aside0.mk hw
              clear hw
              try dsimp only at hf
              by_cases hj : j ≤ s.size
              · rw [if_pos hj] at hf
                obtain ⟨j2, hsk, hf⟩ := Option.bind_eq_some_iff.mp hf
                have HSK := Aside0.mk hsk
                clear hsk
                by_cases hj2 : j2 ≤ s.size
                · rw [if_pos hj2] at hf
                  have HF := Aside0.mk hf
                  have HJ := Aside0.mk hj
                  have HJ2 := Aside0.mk hj2
                  have HLIM := Aside0.mk hol
                  have q1 : (((i : Nat) : Int) < (s.size : Int)) = True := eq_true (by omega)
                  have q2 : decide (((i : Nat) : Int) < (s.size : Int)) = true := decide_eq_true (by omega)
                  have q3 : decide (i < s.size) = true := decide_eq_true hlt
                  have p3 : decide ((out.length : Int) ≥ 65536) = false := decide_eq_false (by omega)
                  have p4 : decide (65536 ≤ (out.length : Int)) = false := decide_eq_false (by omega)
                  clear hf hj hj2 hol hlt hs
                  go_wp2
                  refine wp_region_quiet_lit (by kernel_rfl) (by kernel_rfl) ?_
                  repeat (go_big_quiet_step (fail))
                  refine wpQuiet_nil ?_
                  intro _ hw'
                  obtain ⟨nq, hw''⟩ := hw'
                  subst hw''
                  go_upto_region 12 with (first | (go_at_call 67; with_reducible refine (word_calls k2 s g i j kd tx nm HS.out _ ?lx HW.out).mono ?_; (case lx => exact (by repeat (first | (with_reducible first | exact HT.out.x | apply Lx.drewN | apply Lx.drew)))); rintro e wd ⟨rfl, hx, hk⟩; have HT2 := Aside0.mk (Toks.lk (by repeat (first | (with_reducible first | exact HT.out | apply Toks.drewN | apply Toks.drew))) HP.out hk hx); clear hx hk HT hc0 hc1 hd0 hz0; have HT := HT2; clear HT2; have hc0 := HT.out.x.s; have hc1 := HT.out.x.i; have hd0 := (blk_cell HT.out.o 0).trans rfl; have hz0 := blk_frozen HT.out.o 0) | ((with_reducible refine gate_dst (N := 7) rfl ?_); (try (refine gate_guard (by rfl) ?_; dsimp only)); refine box_event ?hg (N := 7) ?hd (cs := #[.int .i64 0, .int .i64 0, .string (⟨#[]⟩ : ByteArray), .string (⟨#[]⟩ : ByteArray)]) (t := 67) ?hr ?_; (case hd => rfl); (case hg => rfl); (case hr => first | (go_simp; done) | (go_simp; rfl)); intro bt hg w7 hbox hb; have G7 := Aside0.mk hg; have K7 := Aside0.mk (show Tk w7 bt 0 0 ⟨#[]⟩ ⟨#[]⟩ from hbox); have LT0 := Aside0.mk (show bo < bt by rw [hg]; exact blk_lt HT.out.o); have LT1 := Aside0.mk (show ba < bt by rw [hg]; exact blk_lt HT.out.a); have LT2 := Aside0.mk (show be < bt by rw [hg]; exact blk_lt HT.out.e); have LT3 := Aside0.mk (show g < bt by rw [hg]; exact blk_lt HT.out.x); have LT4 := Aside0.mk (show (Value.slice A1 out.length cc1).ownBlock ≠ some bt from fun e => by have h1 := Kd.R_lt HT.out.r _ e; rw [hg] at h1; exact Nat.lt_irrefl _ h1); have LT5 := Aside0.mk (show w.heap.size ≤ bt by rw [hg]; exact below_size HT.out.b); have HT2 := Aside0.mk (Toks.below HT.out hb); clear hg hbox hb HT hc0 hc1 hd0 hz0; have HT := HT2; clear HT2; have he0 := LT0.out; have hne : bo ≠ bt := Nat.ne_of_lt LT0.out; have hne2 : bt ≠ bo := Nat.ne_of_gt LT0.out; have hc0 := HT.out.x.s; have hc1 := HT.out.x.i; have hd0 := (blk_cell HT.out.o 0).trans rfl; have hz0 := blk_frozen HT.out.o 0; have ht0 := K7.out.c0; have ht1 := K7.out.c1; have ht2 := K7.out.c2; have ht3 := K7.out.c3; have hf0 := K7.out.fz 0; have hf1 := K7.out.fz 1; have hf2 := K7.out.fz 2; have hf3 := K7.out.fz 3))
                  have HT8 : Aside0 (Toks w ((((w7.setCell ⟨bt, 0, none⟩ (.int .i64 kd)).setCell ⟨bt, 1, none⟩ (.int .i64 (i : Int))).setCell ⟨bt, 2, none⟩ (.string tx)).setCell ⟨bt, 3, none⟩ (.string nm)) bo ba be g s j out (.slice A1 out.length cc1)) := ⟨(Toks.far (Toks.far (Toks.far (Toks.far HT.out LT5.out (Nat.ne_of_lt LT0.out) (Nat.ne_of_lt LT1.out) (Nat.ne_of_lt LT2.out) (Nat.ne_of_lt LT3.out) LT4.out _ _) LT5.out (Nat.ne_of_lt LT0.out) (Nat.ne_of_lt LT1.out) (Nat.ne_of_lt LT2.out) (Nat.ne_of_lt LT3.out) LT4.out _ _) LT5.out (Nat.ne_of_lt LT0.out) (Nat.ne_of_lt LT1.out) (Nat.ne_of_lt LT2.out) (Nat.ne_of_lt LT3.out) LT4.out _ _) LT5.out (Nat.ne_of_lt LT0.out) (Nat.ne_of_lt LT1.out) (Nat.ne_of_lt LT2.out) (Nat.ne_of_lt LT3.out) LT4.out _ _)⟩
                  have K8 : Aside0 (Tk ((((w7.setCell ⟨bt, 0, none⟩ (.int .i64 kd)).setCell ⟨bt, 1, none⟩ (.int .i64 (i : Int))).setCell ⟨bt, 2, none⟩ (.string tx)).setCell ⟨bt, 3, none⟩ (.string nm)) bt kd (i : Int) tx nm) := ⟨Tk.set3 (Tk.set2 (Tk.set1 (Tk.set0 K7.out _) _) _) _⟩
                  clear HT K7 hc0 hc1 hd0 hz0 ht0 ht1 ht2 ht3 hf0 hf1 hf2 hf3 he0
                  generalize ((((w7.setCell ⟨bt, 0, none⟩ (.int .i64 kd)).setCell ⟨bt, 1, none⟩ (.int .i64 (i : Int))).setCell ⟨bt, 2, none⟩ (.string tx)).setCell ⟨bt, 3, none⟩ (.string nm)) = w8 at HT8 K8 ⊢
                  have hd0 := (blk_cell HT8.out.o 0).trans rfl
                  have hz0 := blk_frozen HT8.out.o 0
                  have ht0 := K8.out.c0
                  have ht1 := K8.out.c1
                  have ht2 := K8.out.c2
                  have ht3 := K8.out.c3
                  go_wp2_with (first | ((with_reducible refine gate_builtin (b := .append) (xs := #[.tmp 42, .tmp 44]) rfl ?_); at_builtin; refine Kd.R_append k67 (w0 := w) w.heap.size rfl (.tmp 42) (.tmp 44) 35 67 (.agg #[.int .i64 0, .int .i64 0, .string (⟨#[]⟩ : ByteArray), .string (⟨#[]⟩ : ByteArray)]) 48 rfl Tryd.underlying35 infoT rfl (by decide) (by omega) (.slice A1 out.length cc1) out ⟨kd, (i : Int), tx, nm⟩ [.int .i64 kd, .int .i64 (i : Int), .string tx, .string nm] (fun k => k ≠ bo ∧ k ≠ ba ∧ k ≠ be ∧ k ≠ g) (fun _ => False) rfl rfl ?aP (fun _ hk => hk.elim) ?aF ?aO ?aB ?aS ?aL ?_; (case aP => exact k67_mkM _ _ _ ⟨kd, (i : Int), tx, nm⟩); (case aB => exact HT8.out.b); (case aF => exact (fun k hk => by have := blk_lt HT8.out.o; have := blk_lt HT8.out.a; have := blk_lt HT8.out.e; have := blk_lt HT8.out.x; exact ⟨by omega, by omega, by omega, by omega⟩)); (case aO => exact HT8.out.r); (case aS => exact (below_size HT8.out.b)); (case aL => have := HLIM.out; omega); intro v1 W9 ho hb hg hat; obtain ⟨A2, cc2, rfl⟩ := Kd.R_slice ho; rw [List.length_append, List.length_singleton] at ho; have HT := Aside0.mk (Toks.set HT8.out HP.out hg ho hb); have hn0 : some bo ≠ (Value.slice A1 out.length cc1).ownBlock := fun e => (HT8.out.r.1 bo e.symm).1 rfl; have hz9 := blk_frozen (blk_grown HT8.out.o hg hn0) 0; have hy9 := (blk_cell (blk_grown HT8.out.o hg hn0) 0).trans rfl; clear ho hb hg hat hn0) | (go_at_call 66; with_reducible refine (skip_calls k2 s g j j2 HS.out HJ.out _ ?lx HSK.out).mono ?_; (case lx => exact (by repeat (first | (with_reducible first | exact HT.out.x | apply Lx.drewN | apply Lx.drew)))); rintro e wk ⟨rfl, hx, hk⟩; have HT2 := Aside0.mk (Toks.lk (by repeat (first | (with_reducible first | exact HT.out | apply Toks.drewN | apply Toks.drew))) HP.out hk hx); clear hx hk HT; have HT := HT2; clear HT2; have hc0 := HT.out.x.s; have hc1 := HT.out.x.i; have hd0 := (blk_cell HT.out.o 0).trans rfl; have hz0 := blk_frozen HT.out.o 0))
                  go_roundg k2
                  case measure => omega
                  case rel => exact ⟨j2, out ++ [⟨kd, (i : Int), tx, nm⟩], _, ⟨by rw [List.length_append, List.length_singleton]; have := HLIM.out; omega⟩, HJ2, HF, ⟨by repeat (first | (with_reducible first | exact HT.out | apply Toks.drewN | apply Toks.drew))⟩⟩
                · rw [if_neg hj2] at hf
                  cases hf
              · rw [if_neg hj] at hf
                cases hf
            · rw [if_neg hol] at hf
              cases hf
          · rw [if_neg hlt] at hf
            obtain rfl := Option.some.inj hf
            have HLIM := Aside0.mk (show out.length < 1000000 by have := HOL.out; omega)
            have q1 : (((i : Nat) : Int) < (s.size : Int)) = False := eq_false (by omega)
            have q2 : decide (((i : Nat) : Int) < (s.size : Int)) = false := decide_eq_false (by omega)
            have q3 : decide (i < s.size) = false := decide_eq_false hlt
            clear hf hlt hs
            go_wp2
            refine wp_region_quiet_lit (by kernel_rfl) (by kernel_rfl) ?_
            repeat (go_big_quiet_step (fail))
            refine wpQuiet_nil ?_
            intro _ hw'
            obtain ⟨nq, hw''⟩ := hw'
            subst hw''
            go_wp2
            refine Code.wp_mono QN.to ?_
            have HT3 : Aside0 (Toks w (wr.drewN nq).drew bo ba be g s i out (.slice A1 out.length cc1)) := ⟨(HT.out.drewN nq).drew⟩
            refine start_ (n := 12) (S := (fun w' => w'.cell? ⟨bo, 0, none⟩ = some (.slice A1 out.length cc1) ∧ w'.cell? ⟨g, 0, none⟩ = some (.string s))) (ds := [9, 10, 11]) #[false, false, false, false, false, false, false, false, false, false, false, false] (by kernel_rfl) rfl rfl ⟨(blk_cell HT3.out.o 0).trans rfl, HT3.out.x.s⟩ (fun hHeld => ?_)
            refine with_tabW token_Tokens.tab13 token_Tokens.bits13 (fun HT_ HW_ => ?_)
            generalize (wr.drewN nq).drew = W3 at HT3 hHeld ⊢
            refine tas_ 0 (some 46) #[true, false, false, false, false, false, false, false, false, false, false, false] rfl rfl HT_.out HW_.out hHeld ?_
            refine pus_ 1 (some 47) #[true, true, false, false, false, false, false, false, false, false, false, false] rfl rfl HT_.out ?_
            refine pus_ 2 (some 48) #[true, true, true, false, false, false, false, false, false, false, false, false] rfl rfl HT_.out ?_
            refine pus_ 3 (some 49) #[true, true, true, true, false, false, false, false, false, false, false, false] rfl rfl HT_.out ?_
            refine tas_ 4 (some 50) #[true, true, true, true, true, false, false, false, false, false, false, false] rfl rfl HT_.out HW_.out hHeld ?_
            refine pus_ 5 (some 51) #[true, true, true, true, true, true, false, false, false, false, false, false] rfl rfl HT_.out ?_
            refine pus_ 6 (some 52) #[true, true, true, true, true, true, true, false, false, false, false, false] rfl rfl HT_.out ?_
            refine one_ (i := 7) (N := (some 53)) #[true, true, true, true, true, true, true, true, false, false, false, false] rfl rfl (one_of HT_.out (by kernel_rfl)) (by decide) (fun K hK => ?_)
            refine value_ (w1 := ?_) (v := ?_) (by rfl) rfl ?_ ?_
            rotate_left 2
            ·go_simp
             constructor
             ·rfl
             ·rfl
            refine hK.out _ _ ⟨(blk_cell (blk_alloc HT3.out.o _) 0).trans rfl, (Lx.below HT3.out.x (below_alloc (Below.refl _ _) _)).s⟩ (fun hHeld => ?_)
            clear hK K
            refine norm_ (a' := ?_) ?_ ?_
            rotate_left
            ·show Act.put _ (some 53) _ = _
             simp only [Act.put, List.setIfInBounds_toArray, List.set_cons_zero, List.set_cons_succ, i64_w, i32_w]
             rfl
            refine one_ (i := 8) (N := (some 54)) #[true, true, true, true, true, true, true, true, true, false, false, false] rfl rfl (one_of HT_.out (by kernel_rfl)) (by decide) (fun K hK => ?_)
            refine Kd.R_append_step k67 (w0 := w) w.heap.size (by rfl) (.tmp 46) (.tmp 53) 35 67 (.agg #[.int .i64 0, .int .i64 0, .string (⟨#[]⟩ : ByteArray), .string (⟨#[]⟩ : ByteArray)]) 48 rfl Tryd.underlying35 infoT rfl (by decide) (by omega) (.slice A1 out.length cc1) out ⟨8, (s.size : Int), ⟨#[]⟩, ⟨#[]⟩⟩ [.int .i64 8, .int .i64 (s.size : Int), .string (⟨#[]⟩ : ByteArray), .string (⟨#[]⟩ : ByteArray)] (fun k => k ≠ bo ∧ k ≠ ba ∧ k ≠ be ∧ k ≠ g) (fun _ => False) rfl rfl ?aP (fun _ hk => hk.elim) ?aF ?aO ?aB ?aS ?aL ?_
            (case aP => exact k67_mkM _ _ _ ⟨8, (s.size : Int), ⟨#[]⟩, ⟨#[]⟩⟩)
            (case aB => exact HT3.out.b)
            (case aF => exact (fun k hk => by have := blk_lt HT3.out.o; have := blk_lt HT3.out.a; have := blk_lt HT3.out.e; have := blk_lt HT3.out.x; exact ⟨by omega, by omega, by omega, by omega⟩))
            (case aO => exact HT3.out.r)
            (case aS => exact (below_size HT3.out.b))
            (case aL => have := HLIM.out; omega)
            intro v1 W4 ho hb hg hat
            obtain ⟨A2, cc2, rfl⟩ := Kd.R_slice ho
            rw [List.length_append, List.length_singleton] at ho
            have HO := Aside0.mk ho
            have HT4 := Aside0.mk (Toks.set HT3.out HP.out hg HO.out hb)
            have hn0 : some bo ≠ (Value.slice A1 out.length cc1).ownBlock := fun e => (HT3.out.r.1 bo e.symm).1 rfl
            have hn1 : some ba ≠ (Value.slice A1 out.length cc1).ownBlock := fun e => (HT3.out.r.1 ba e.symm).2.1 rfl
            have hn2 : some be ≠ (Value.slice A1 out.length cc1).ownBlock := fun e => (HT3.out.r.1 be e.symm).2.2.1 rfl
            have hn3 : some g ≠ (Value.slice A1 out.length cc1).ownBlock := fun e => (HT3.out.r.1 g e.symm).2.2.2 rfl
            have HB0 := Aside0.mk (blk_grown HT3.out.o hg hn0)
            have HB1 := Aside0.mk (blk_grown HT3.out.a hg hn1)
            have HB2 := Aside0.mk (blk_grown HT3.out.e hg hn2)
            have HB3 : Aside0 (Lx W4 g s i) := ⟨blk_grown HT3.out.x hg hn3⟩
            have hz0 := blk_frozen HB0.out 0
            have hz1 := blk_frozen HB1.out 0
            have hz2 := blk_frozen HB2.out 0
            have hy0 : W4.cell? ⟨bo, 0, none⟩ = some (.slice A1 out.length cc1) := (blk_cell HB0.out 0).trans rfl
            have hy1 : W4.cell? ⟨ba, 0, none⟩ = some (.int .i64 0) := (blk_cell HB1.out 0).trans rfl
            have hy2 : W4.cell? ⟨be, 0, none⟩ = some (.int .i64 0) := (blk_cell HB2.out 0).trans rfl
            have e0 : ba ≠ bo := by have := HP.out.l1; omega
            have e1 : be ≠ bo := by have := HP.out.l1; have := HP.out.l2; omega
            have e2 : be ≠ ba := by have := HP.out.l2; omega
            have e3 : bo ≠ ba := e0.symm
            have e4 : bo ≠ be := e1.symm
            have e5 : ba ≠ be := e2.symm
            clear hb hg hat hn0 hn1 hn2 hn3 ho
            refine hK.out _ _ ⟨(blk_cell HB0.out 0).trans rfl, HB3.out.s⟩ (fun hHeld => ?_)
            clear hK K
            refine norm_ (a' := ?_) ?_ ?_
            rotate_left
            ·show Act.put _ (some 54) _ = _
             simp only [Act.put, List.setIfInBounds_toArray, List.set_cons_zero, List.set_cons_succ, i64_w, i32_w]
             rfl
            refine last_ (i := 9) (N := none) #[true, true, true, true, true, true, true, true, true, true, false, false] rfl rfl (one_of HT_.out (by kernel_rfl)) (by decide) (fun K hK => ?_)
            refine skip_ (w1 := ?_) (by rfl) rfl ?_ ?_
            rotate_left
            ·go_simp
             rfl
            refine hK.out _ _ ?_
            clear hK K
            refine last_ (i := 10) (N := none) #[true, true, true, true, true, true, true, true, true, true, true, false] rfl rfl (one_of HT_.out (by kernel_rfl)) (by decide) (fun K hK => ?_)
            refine skip_ (w1 := ?_) (by rfl) rfl ?_ ?_
            rotate_left
            ·go_simp
             rfl
            refine hK.out _ _ ?_
            clear hK K
            refine last_ (i := 11) (N := none) #[true, true, true, true, true, true, true, true, true, true, true, true] rfl rfl (one_of HT_.out (by kernel_rfl)) (by decide) (fun K hK => ?_)
            refine skip_ (w1 := ?_) (by rfl) rfl ?_ ?_
            rotate_left
            ·go_simp
             rfl
            refine hK.out _ _ ?_
            clear hK K
            refine done_ (done_of HT_.out (by kernel_rfl)) ?_
            dsimp only [QN]
            go_wp2
            refine leaves_cons (f := 65) (args := #[.pointer (some ⟨bo, 0, none⟩), .pointer (some ⟨ba, 0, none⟩), .pointer (some ⟨be, 0, none⟩)]) (by simp) (by simp [go_sem]) ?_
            refine (tokens_idle bo ba be _).mono ?_
            rintro e u' w'' ⟨rfl, rfl, rfl⟩
            obtain ⟨F0, F1, F2, FR, FB⟩ := Toks.fin HT4.out HP.out
            refine ⟨.tuple #[.slice A2 (out.length + 1) cc2, .int .i64 0, .int .i64 0], ?_, ⟨_, rfl, FR, FB⟩⟩
            simp [results, Tryd.results36, go_sem, F0, F1, F2]
    · rw [if_neg hi0] at h
      cases h
  · rw [if_neg hl] at h
    cases h
end Go.Proofs.YtofdhdafabmhmaaDoor.Giv
end
section
namespace Go.Proofs.YtofdhdafabmhmaaDoor.PLa
open Go.RowKit Go.Proofs.YtofdhdafabmhmaaDoorW.PrintWords Go.Proofs.YtofdhdafabmhmaaDoorW.PrintLast Go.Proofs.YtofdhdafabmhmaaDoorW.PrintMore
attribute [local go_sem] max2_int min2_int max_two min_two max_three min_three max_four min_four
open Go.Proofs.YtofdhdafabmhmaaDoor.Opn Go.Proofs.YtofdhdafabmhmaaDoor.Giv

/-! ### parterrelaw07_words: function 21 -/
def parterrelaw07_words.f (k : Nat) (a0 : ByteArray) : Option ((List (S67))) := if (a0.size : Int) ≤ 140737488355328 then ((token_Tokens.f k ((bytesOf a0 : List Int))).bind fun bt178 => (some bt178.1)) else (none)
theorem parterrelaw07_words.mono : ∀ a0 k, LeO (parterrelaw07_words.f k a0) (parterrelaw07_words.f (k + 1) a0) := by
 intro a0 k
 unfold parterrelaw07_words.f
 repeat' first
   | (with_reducible exact token_Tokens.mono _ _)
   | (with_reducible exact LeO.refl _)
   | (with_reducible exact LeO.none _)
   | (with_reducible refine LeO.ite ?_ ?_)
   | (with_reducible refine LeO.bind ?_ (fun _ => ?_))
set_option maxHeartbeats 8000000 in
set_option maxRecDepth 100000 in
theorem parterrelaw07_words.calls (k : Nat) (a0 : ByteArray) (r : List (S67)) (w : World) (h : parterrelaw07_words.f k a0 = some r) :
  Calls Tryd.prog 21 #[.string a0] w fun e w' => ∃ v0_ : Value, e = .returned (v0_) ∧ Kd.R k67 67 w' w.heap.size (fun _ => True) v0_ r ∧ Below w.heap.size w w' := by
 have HB := Aside0.mk (Below.refl w.heap.size w)
 have H : (if (a0.size : Int) ≤ 140737488355328 then ((token_Tokens.f k ((bytesOf a0 : List Int))).bind fun bt178 => (some bt178.1)) else (none)) = some r := h
 clear h
 by_cases c2 : (a0.size : Int) ≤ 140737488355328
 ·rw [if_pos c2] at H
  have c2b0 := eq_true c2
  have c2b1 : decide ((a0.size : Int) ≤ 140737488355328) = true := decide_eq_true c2
  clear c2
  obtain ⟨y175, hy175⟩ : ∃ y_ : List Int, y_ = ((bytesOf a0 : List Int)) := ⟨_, rfl⟩
  replace H : ((token_Tokens.f k y175).bind fun bt178 => (some bt178.1)) = some r := by first | (rw [hy175]; with_reducible exact H) | (have H2_ := (Option.bind_some _ _).symm.trans H; rw [hy175]; with_reducible exact H2_) | (have H2_ := (Option.bind_some _ _).symm.trans H; with_reducible exact H2_) | with_reducible exact H | (rw [hy175]; exact H) | exact H
  have Ny175 := Aside0.mk hy175
  clear hy175
  replace H := Option.bind_eq_some_iff.mp H
  obtain ⟨⟨t178, t179, t180⟩, A30, H⟩ := H
  try dsimp only at H
  have A3 := Aside0.mk A30
  clear A30
  obtain rfl := Option.some.inj H
  go_enter Tryd.func21, Tryd.ntmps21
  go_wp2_with (first | ((with_reducible refine gate_dst (N := 8) rfl ?_); refine Kd.Z_bytes _ 5 9 63 ?hg (N := 8) ?hd (x := .tmp 7) a0 ?ho ?hx Tryd.underlying9 Tryd.underlying63 Tryd.underlying5 ?hm (Below.refl _ _) (Nat.le_refl _) ?_; (case hd => rfl); (case hg => rfl); (case ho => rfl); (case hx => first | rfl | (go_simp; done)); (case hm => have h_ : (a0.size : Int) ≤ 140737488355328 := of_decide_eq_true (by first | (with_reducible assumption) | assumption); omega); intro v176 w4 ho5 hb hg_ hnew_; clear hg_ hnew_; (first | rw [← Ny175.out] at ho5 | (simp only [Int.reduceToNat] at ho5; rw [← Ny175.out] at ho5)); have n0_ := Aside0.mk (Kd.Z_lower ho5 (below_size bel_)); have n1_ := Aside0.mk (below_step bel_ hb); clear HB; have HO177 := n0_; have HB := n1_; clear n0_ n1_; clear hb ho5; obtain ⟨Ao6, co6, eo6⟩ := Kd.Z_slice HO177.out; subst eo6) | ((with_reducible refine gate_callee (f := 36) rfl ?_); refine goesL_ (some 9) rfl rfl Tryd.func36 (by kernel_rfl) rfl #[.slice Ao6 y175.length co6] rfl goa_ ?_; (with_reducible refine (token_Tokens.calls k _ _ y175 t178 t179 t180 _ ?side1 ?side2 A3.out).mono ?_); (case side1 => repeat (first | exact (Kd.Z_reads' HO177.out).2.2 | (with_reducible refine Kd.C_alloc ?_ _) | (with_reducible refine Kd.C_drewN ?_ _) | (with_reducible refine Kd.C_drew ?_))); (case side2 => exact (Kd.Z_reads' HO177.out).2.1); rintro e w7 ⟨v181, rfl, ho0, hb⟩; refine ⟨_, rfl, ?_⟩; have n0_ := Aside0.mk (Kd.Z_below (by (with_reducible repeat (first | apply Kd.Z_alloc | apply Kd.Z_drewN | apply Kd.Z_drew)); exact HO177.out) hb); have n1_ := Aside0.mk (Kd.R_lower ho0 (below_size bel_)); have n2_ := Aside0.mk (below_step bel_ hb); clear HO177; clear HB; have HO177 := n0_; have HO182 := n1_; have HB := n2_; clear n0_ n1_ n2_; (try clear hb); (try clear hb2); (try clear hk); (try clear hi); (try clear ho0)))
  go_ret
  exact ⟨_, rsl_, by (with_reducible repeat (first | apply Kd.R_alloc | apply Kd.R_drewN | apply Kd.R_drew)); exact HO182.out, bel_⟩
 ·rw [if_neg c2] at H
  exact absurd H (by simp)

/-! ### ident_Is: function 47 -/
def ident_Is.f (a0 : ByteArray) (a1 : ByteArray) : Option (Bool) := (ident_Lower.f a0).bind fun t183 => ((ident_Lower.f a1).bind fun t184 => (some (t183.toList == t184.toList)))
set_option maxHeartbeats 8000000 in
set_option maxRecDepth 100000 in
theorem ident_Is.calls (a0 : ByteArray) (a1 : ByteArray) (r : Bool) (w : World) (h : ident_Is.f a0 a1 = some r) :
  Calls Tryd.prog 47 #[.string a0, .string a1] w fun e w' => e = .returned (.bool r) ∧ Below w.heap.size w w' := by
 have HB := Aside0.mk (Below.refl w.heap.size w)
 have H : ((ident_Lower.f a0).bind fun t183 => ((ident_Lower.f a1).bind fun t184 => (some (t183.toList == t184.toList)))) = some r := h
 clear h
 replace H := Option.bind_eq_some_iff.mp H
 obtain ⟨t183, A30, H⟩ := H
 try dsimp only at H
 have A3 := Aside0.mk A30
 clear A30
 replace H := Option.bind_eq_some_iff.mp H
 obtain ⟨t184, A40, H⟩ := H
 try dsimp only at H
 have A4 := Aside0.mk A40
 clear A40
 obtain rfl := Option.some.inj H
 go_enter Tryd.func47, Tryd.ntmps47
 go_wp2_with (first | ((with_reducible refine gate_callee (f := 71) rfl ?_); refine goesL_ (some 6) rfl rfl Tryd.func71 (by kernel_rfl) rfl #[.string a0] rfl goa_ ?_; (with_reducible refine (ident_Lower.calls a0 t183 _ A3.out).mono ?_); rintro e w5 ⟨rfl, hb⟩; refine ⟨_, rfl, ?_⟩; have n0_ := Aside0.mk (below_step bel_ hb); clear HB; have HB := n0_; clear n0_; clear hb) | ((with_reducible refine gate_callee (f := 71) rfl ?_); refine goesL_ (some 8) rfl rfl Tryd.func71 (by kernel_rfl) rfl #[.string a1] rfl goa_ ?_; (with_reducible refine (ident_Lower.calls a1 t184 _ A4.out).mono ?_); rintro e w6 ⟨rfl, hb⟩; refine ⟨_, rfl, ?_⟩; have n0_ := Aside0.mk (below_step bel_ hb); clear HB; have HB := n0_; clear n0_; clear hb))
 go_ret
 exact ⟨rsl_, bel_⟩

/-! ### value_word: function 69 -/
def value_word.f (l0 : List (S67)) (a1 : Int) : Option (Int × Int × ByteArray × ByteArray) := if a1 < 0 then (some (8, 0, (⟨#[]⟩ : ByteArray), (⟨#[]⟩ : ByteArray))) else (if a1 ≥ (l0.length : Int) then (some (8, 0, (⟨#[]⟩ : ByteArray), (⟨#[]⟩ : ByteArray))) else (if 0 ≤ a1 then (if a1 < (l0.length : Int) then (some ((rd_T67 l0 a1).f0, (rd_T67 l0 a1).f1, (rd_T67 l0 a1).f2, (rd_T67 l0 a1).f3)) else (none)) else (none)))
set_option maxHeartbeats 8000000 in
set_option maxRecDepth 100000 in
theorem value_word.calls (A0 : Option Addr) (c0 : Nat) (l0 : List (S67)) (a1 : Int) (r1 : Int) (r2 : Int) (r3 : ByteArray) (r4 : ByteArray) (w : World) (hr0 : Kd.C k67 w A0 l0.length l0) (hc0 : l0.length ≤ c0) (h : value_word.f l0 a1 = some (r1, r2, r3, r4)) :
  Calls Tryd.prog 69 #[.slice A0 l0.length c0, .int .i64 a1] w fun e w' => e = .returned (.agg #[.int .i64 r1, .int .i64 r2, .string r3, .string r4]) ∧ Below w.heap.size w w' := by
 have hu67 := Tryd.underlying67
 have HR0 := Aside0.mk hr0
 have HC0 := Aside0.mk hc0
 clear hr0 hc0
 have HB := Aside0.mk (Below.refl w.heap.size w)
 have H : (if a1 < 0 then (some (8, 0, (⟨#[]⟩ : ByteArray), (⟨#[]⟩ : ByteArray))) else (if a1 ≥ (l0.length : Int) then (some (8, 0, (⟨#[]⟩ : ByteArray), (⟨#[]⟩ : ByteArray))) else (if 0 ≤ a1 then (if a1 < (l0.length : Int) then (some ((rd_T67 l0 a1).f0, (rd_T67 l0 a1).f1, (rd_T67 l0 a1).f2, (rd_T67 l0 a1).f3)) else (none)) else (none)))) = some (r1, r2, r3, r4) := h
 clear h
 by_cases c3 : a1 < 0
 ·rw [if_pos c3] at H
  have c3b0 : decide (a1 < 0) = true := decide_eq_true c3
  clear c3
  simp only [Option.some.injEq, Prod.mk.injEq] at H
  obtain ⟨rfl, rfl, rfl, rfl⟩ := H
  go_enter Tryd.func69, Tryd.ntmps69
  go_wp2_with (first | ((with_reducible refine gate_dst (N := 4) rfl ?_); (try (refine gate_guard (by rfl) ?_; dsimp only)); refine box_event ?hg (N := 4) ?hd (cs := #[.int .i64 0, .int .i64 0, .string (⟨#[]⟩ : ByteArray), .string (⟨#[]⟩ : ByteArray)]) (t := 67) ?hr ?_; (case hd => rfl); (case hg => rfl); (case hr => first | (go_simp; done) | (go_simp; rfl)); intro gb185 hg w4 hbox hb; have n0_ := Aside0.mk (below_step bel_ hb); have n1_ := Aside0.mk (hbox); have n2_ := Aside0.mk ((bsz_ hg : w.heap.size ≤ gb185)); have n3_ := Aside0.mk ((bsz_ hg : w.heap.size ≤ gb185)); clear HB; have HB := n0_; have BK185 := n1_; have GW185 := n2_; have GE185 := n3_; clear n0_ n1_ n2_ n3_; clear hb hbox hg; have hcz5_0 : w4.cell? ⟨gb185, 0, none⟩ = some (.int .i64 0) := (blk_cell BK185.out 0).trans rfl; have hcz5_1 : w4.cell? ⟨gb185, 1, none⟩ = some (.int .i64 0) := (blk_cell BK185.out 1).trans rfl; have hcz5_2 : w4.cell? ⟨gb185, 2, none⟩ = some (.string (⟨#[]⟩ : ByteArray)) := (blk_cell BK185.out 2).trans rfl; have hcz5_3 : w4.cell? ⟨gb185, 3, none⟩ = some (.string (⟨#[]⟩ : ByteArray)) := (blk_cell BK185.out 3).trans rfl; have hfz5_0 := blk_frozen BK185.out 0; have hfz5_1 := blk_frozen BK185.out 1; have hfz5_2 := blk_frozen BK185.out 2; have hfz5_3 := blk_frozen BK185.out 3))
  refine bodyPost_ret (results_cell_row rfl _ _ gb185 67 #[.int .i64 8, .int .i64 0, .string (⟨#[]⟩ : ByteArray), .string (⟨#[]⟩ : ByteArray)] (0, 0) _ rfl (by (with_reducible repeat (first | refine blk_drewN ?_ _ | refine blk_drew ?_ | refine blk_alloc ?_ _)); refine blk_put (cs := #[.int .i64 8, .int .i64 0, .string (⟨#[]⟩ : ByteArray), .string (⟨#[]⟩ : ByteArray)]) ?_ 3 _ rfl; (with_reducible repeat (first | refine blk_drewN ?_ _ | refine blk_drew ?_ | refine blk_alloc ?_ _)); refine blk_put (cs := #[.int .i64 8, .int .i64 0, .string (⟨#[]⟩ : ByteArray), .string (⟨#[]⟩ : ByteArray)]) ?_ 2 _ rfl; (with_reducible repeat (first | refine blk_drewN ?_ _ | refine blk_drew ?_ | refine blk_alloc ?_ _)); refine blk_put (cs := #[.int .i64 8, .int .i64 0, .string (⟨#[]⟩ : ByteArray), .string (⟨#[]⟩ : ByteArray)]) ?_ 1 _ rfl; (with_reducible repeat (first | refine blk_drewN ?_ _ | refine blk_drew ?_ | refine blk_alloc ?_ _)); refine blk_put (cs := #[.int .i64 0, .int .i64 0, .string (⟨#[]⟩ : ByteArray), .string (⟨#[]⟩ : ByteArray)]) ?_ 0 _ rfl; (with_reducible repeat (first | refine blk_drewN ?_ _ | refine blk_drew ?_ | refine blk_alloc ?_ _)); exact BK185.out) Tryd.underlying67 rfl (by kernel_rfl)) rfl ?_
  exact ⟨rsl_, bel_⟩
 ·rw [if_neg c3] at H
  have c3b0 : decide (a1 < 0) = false := decide_eq_false c3
  clear c3
  by_cases c6 : a1 ≥ (l0.length : Int)
  ·rw [if_pos c6] at H
   have c6b0 : decide ((l0.length : Int) ≤ a1) = true := decide_eq_true c6
   clear c6
   simp only [Option.some.injEq, Prod.mk.injEq] at H
   obtain ⟨rfl, rfl, rfl, rfl⟩ := H
   go_enter Tryd.func69, Tryd.ntmps69
   go_wp2_with (first | ((with_reducible refine gate_dst (N := 4) rfl ?_); (try (refine gate_guard (by rfl) ?_; dsimp only)); refine box_event ?hg (N := 4) ?hd (cs := #[.int .i64 0, .int .i64 0, .string (⟨#[]⟩ : ByteArray), .string (⟨#[]⟩ : ByteArray)]) (t := 67) ?hr ?_; (case hd => rfl); (case hg => rfl); (case hr => first | (go_simp; done) | (go_simp; rfl)); intro gb185 hg w7 hbox hb; have n0_ := Aside0.mk (below_step bel_ hb); have n1_ := Aside0.mk (hbox); have n2_ := Aside0.mk ((bsz_ hg : w.heap.size ≤ gb185)); have n3_ := Aside0.mk ((bsz_ hg : w.heap.size ≤ gb185)); clear HB; have HB := n0_; have BK185 := n1_; have GW185 := n2_; have GE185 := n3_; clear n0_ n1_ n2_ n3_; clear hb hbox hg; have hcz8_0 : w7.cell? ⟨gb185, 0, none⟩ = some (.int .i64 0) := (blk_cell BK185.out 0).trans rfl; have hcz8_1 : w7.cell? ⟨gb185, 1, none⟩ = some (.int .i64 0) := (blk_cell BK185.out 1).trans rfl; have hcz8_2 : w7.cell? ⟨gb185, 2, none⟩ = some (.string (⟨#[]⟩ : ByteArray)) := (blk_cell BK185.out 2).trans rfl; have hcz8_3 : w7.cell? ⟨gb185, 3, none⟩ = some (.string (⟨#[]⟩ : ByteArray)) := (blk_cell BK185.out 3).trans rfl; have hfz8_0 := blk_frozen BK185.out 0; have hfz8_1 := blk_frozen BK185.out 1; have hfz8_2 := blk_frozen BK185.out 2; have hfz8_3 := blk_frozen BK185.out 3))
   refine bodyPost_ret (results_cell_row rfl _ _ gb185 67 #[.int .i64 8, .int .i64 0, .string (⟨#[]⟩ : ByteArray), .string (⟨#[]⟩ : ByteArray)] (0, 0) _ rfl (by (with_reducible repeat (first | refine blk_drewN ?_ _ | refine blk_drew ?_ | refine blk_alloc ?_ _)); refine blk_put (cs := #[.int .i64 8, .int .i64 0, .string (⟨#[]⟩ : ByteArray), .string (⟨#[]⟩ : ByteArray)]) ?_ 3 _ rfl; (with_reducible repeat (first | refine blk_drewN ?_ _ | refine blk_drew ?_ | refine blk_alloc ?_ _)); refine blk_put (cs := #[.int .i64 8, .int .i64 0, .string (⟨#[]⟩ : ByteArray), .string (⟨#[]⟩ : ByteArray)]) ?_ 2 _ rfl; (with_reducible repeat (first | refine blk_drewN ?_ _ | refine blk_drew ?_ | refine blk_alloc ?_ _)); refine blk_put (cs := #[.int .i64 8, .int .i64 0, .string (⟨#[]⟩ : ByteArray), .string (⟨#[]⟩ : ByteArray)]) ?_ 1 _ rfl; (with_reducible repeat (first | refine blk_drewN ?_ _ | refine blk_drew ?_ | refine blk_alloc ?_ _)); refine blk_put (cs := #[.int .i64 0, .int .i64 0, .string (⟨#[]⟩ : ByteArray), .string (⟨#[]⟩ : ByteArray)]) ?_ 0 _ rfl; (with_reducible repeat (first | refine blk_drewN ?_ _ | refine blk_drew ?_ | refine blk_alloc ?_ _)); exact BK185.out) Tryd.underlying67 rfl (by kernel_rfl)) rfl ?_
   exact ⟨rsl_, bel_⟩
  ·rw [if_neg c6] at H
   have c6b0 : decide ((l0.length : Int) ≤ a1) = false := decide_eq_false c6
   clear c6
   by_cases c9 : 0 ≤ a1
   ·rw [if_pos c9] at H
    have c9b0 : decide (0 ≤ a1) = true := decide_eq_true c9
    clear c9
    by_cases c10 : a1 < (l0.length : Int)
    ·rw [if_pos c10] at H
     have c10b0 : decide (a1 < (l0.length : Int)) = true := decide_eq_true c10
     clear c10
     simp only [Option.some.injEq, Prod.mk.injEq] at H
     obtain ⟨rfl, rfl, rfl, rfl⟩ := H
     go_enter Tryd.func69, Tryd.ntmps69
     go_wp2_with (first | ((with_reducible refine gate_dst (N := 4) rfl ?_); (try (refine gate_guard (by rfl) ?_; dsimp only)); refine box_event ?hg (N := 4) ?hd (cs := #[.int .i64 0, .int .i64 0, .string (⟨#[]⟩ : ByteArray), .string (⟨#[]⟩ : ByteArray)]) (t := 67) ?hr ?_; (case hd => rfl); (case hg => rfl); (case hr => first | (go_simp; done) | (go_simp; rfl)); intro gb185 hg w11 hbox hb; have n0_ := Aside0.mk (below_step bel_ hb); have n1_ := Aside0.mk (hbox); have n2_ := Aside0.mk ((bsz_ hg : w.heap.size ≤ gb185)); have n3_ := Aside0.mk ((bsz_ hg : w.heap.size ≤ gb185)); clear HB; have HB := n0_; have BK185 := n1_; have GW185 := n2_; have GE185 := n3_; clear n0_ n1_ n2_ n3_; clear hb hbox hg; have p186 : 0 ≤ (a1 : Int) := of_decide_eq_true (by first | (with_reducible assumption) | assumption); have q186 : a1 < (l0.length : Int) := of_decide_eq_true (by first | (with_reducible assumption) | assumption); obtain ⟨ad186, e186, hx186_0, hx186_1, hx186_2, hx186_3⟩ := at_T67 HR0.out a1 p186 q186; cases e186; replace hx186_0 := (HB.out.cell (World.block_lt_of_cell? w _ hx186_0)).trans hx186_0; replace hx186_1 := (HB.out.cell (World.block_lt_of_cell? w _ hx186_1)).trans hx186_1; replace hx186_2 := (HB.out.cell (World.block_lt_of_cell? w _ hx186_2)).trans hx186_2; replace hx186_3 := (HB.out.cell (World.block_lt_of_cell? w _ hx186_3)).trans hx186_3; replace p186 := eq_true p186; replace q186 := eq_true q186; have hcz12_0 : w11.cell? ⟨gb185, 0, none⟩ = some (.int .i64 0) := (blk_cell BK185.out 0).trans rfl; have hcz12_1 : w11.cell? ⟨gb185, 1, none⟩ = some (.int .i64 0) := (blk_cell BK185.out 1).trans rfl; have hcz12_2 : w11.cell? ⟨gb185, 2, none⟩ = some (.string (⟨#[]⟩ : ByteArray)) := (blk_cell BK185.out 2).trans rfl; have hcz12_3 : w11.cell? ⟨gb185, 3, none⟩ = some (.string (⟨#[]⟩ : ByteArray)) := (blk_cell BK185.out 3).trans rfl; have hfz12_0 := blk_frozen BK185.out 0; have hfz12_1 := blk_frozen BK185.out 1; have hfz12_2 := blk_frozen BK185.out 2; have hfz12_3 := blk_frozen BK185.out 3))
     refine bodyPost_ret (results_cell_row rfl _ _ gb185 67 #[.int .i64 ((rd_T67 l0 a1).f0), .int .i64 ((rd_T67 l0 a1).f1), .string ((rd_T67 l0 a1).f2), .string ((rd_T67 l0 a1).f3)] (0, 0) _ rfl (by (with_reducible repeat (first | refine blk_drewN ?_ _ | refine blk_drew ?_ | refine blk_alloc ?_ _)); refine blk_put (cs := #[.int .i64 ((rd_T67 l0 a1).f0), .int .i64 ((rd_T67 l0 a1).f1), .string ((rd_T67 l0 a1).f2), .string (⟨#[]⟩ : ByteArray)]) ?_ 3 _ rfl; (with_reducible repeat (first | refine blk_drewN ?_ _ | refine blk_drew ?_ | refine blk_alloc ?_ _)); refine blk_put (cs := #[.int .i64 ((rd_T67 l0 a1).f0), .int .i64 ((rd_T67 l0 a1).f1), .string (⟨#[]⟩ : ByteArray), .string (⟨#[]⟩ : ByteArray)]) ?_ 2 _ rfl; (with_reducible repeat (first | refine blk_drewN ?_ _ | refine blk_drew ?_ | refine blk_alloc ?_ _)); refine blk_put (cs := #[.int .i64 ((rd_T67 l0 a1).f0), .int .i64 0, .string (⟨#[]⟩ : ByteArray), .string (⟨#[]⟩ : ByteArray)]) ?_ 1 _ rfl; (with_reducible repeat (first | refine blk_drewN ?_ _ | refine blk_drew ?_ | refine blk_alloc ?_ _)); refine blk_put (cs := #[.int .i64 0, .int .i64 0, .string (⟨#[]⟩ : ByteArray), .string (⟨#[]⟩ : ByteArray)]) ?_ 0 _ rfl; (with_reducible repeat (first | refine blk_drewN ?_ _ | refine blk_drew ?_ | refine blk_alloc ?_ _)); exact BK185.out) Tryd.underlying67 rfl (by kernel_rfl)) rfl ?_
     exact ⟨rsl_, bel_⟩
    ·rw [if_neg c10] at H
     exact absurd H (by simp)
   ·rw [if_neg c9] at H
    exact absurd H (by simp)

/-! ### value_Keyword: function 37 -/
def value_Keyword.l0 : Nat → Int → List ByteArray → Int → Int → Int → Int → ByteArray → ByteArray → Option (Int × Int)
 | 0, _, _, _, _, _, _, _, _ => none
 | k + 1, x1, x17, x18, x19, x192000, x192001, x192002, x192003 => if x19 < x18 then (if 0 ≤ x19 then (if x19 < (x17.length : Int) then ((ident_Is.f x192002 (rdOf ByteArray.empty x17 x19)).bind fun t193 => (if t193 = true then (some (x19, wrap64 (x1 + 1))) else (value_Keyword.l0 k x1 x17 x18 (wrap64 (x19 + 1)) x192000 x192001 x192002 x192003))) else (none)) else (none)) else (some ((-1), x1))
def value_Keyword.f (k : Nat) (l0 : List (S67)) (a1 : Int) (l2 : List ByteArray) : Option (Int × Int) := (value_word.f l0 a1).bind fun bt187 => (if bt187.1 = 1 then (value_Keyword.l0 k a1 l2 (l2.length : Int) 0 bt187.1 bt187.2.1 bt187.2.2.1 bt187.2.2.2) else (some ((-1), a1)))
theorem value_Keyword.mono_l : ∀ k, (∀ y0 y1 y2 y3 y4 y5 y6 y7, LeO (value_Keyword.l0 k y0 y1 y2 y3 y4 y5 y6 y7) (value_Keyword.l0 (k + 1) y0 y1 y2 y3 y4 y5 y6 y7))
 | 0 => fun _ _ _ _ _ _ _ _ r h => by simp [value_Keyword.l0] at h
 | k + 1 => by
  have ih0 := value_Keyword.mono_l k
  ·intro y0 y1 y2 y3 y4 y5 y6 y7
   unfold value_Keyword.l0
   repeat' first
   | (with_reducible exact ih0 _ _ _ _ _ _ _ _)
   | (with_reducible exact LeO.refl _)
   | (with_reducible exact LeO.none _)
   | (with_reducible refine LeO.ite ?_ ?_)
   | (with_reducible refine LeO.bind ?_ (fun _ => ?_))
theorem value_Keyword.mono : ∀ a0 a1 a2 k, LeO (value_Keyword.f k a0 a1 a2) (value_Keyword.f (k + 1) a0 a1 a2) := by
 intro a0 a1 a2 k
 have ih0 := value_Keyword.mono_l k
 unfold value_Keyword.f
 repeat' first
   | (with_reducible exact ih0 _ _ _ _ _ _ _ _)
   | (with_reducible exact LeO.refl _)
   | (with_reducible exact LeO.none _)
   | (with_reducible refine LeO.ite ?_ ?_)
   | (with_reducible refine LeO.bind ?_ (fun _ => ?_))
set_option maxHeartbeats 8000000 in
set_option maxRecDepth 100000 in
theorem value_Keyword.calls (k : Nat) (A0 : Option Addr) (c0 : Nat) (l0 : List (S67)) (a1 : Int) (A2 : Option Addr) (c2 : Nat) (l2 : List ByteArray) (r1 : Int) (r2 : Int) (w : World) (hr0 : Kd.C k67 w A0 l0.length l0) (hc0 : l0.length ≤ c0) (hr2 : Kd.C Kd.string w A2 l2.length l2) (hc2 : l2.length ≤ c2) (h : value_Keyword.f k l0 a1 l2 = some (r1, r2)) :
  Calls Tryd.prog 37 #[.slice A0 l0.length c0, .int .i64 a1, .slice A2 l2.length c2] w fun e w' => e = .returned (.tuple #[.int .i64 r1, .int .i64 r2]) ∧ Below w.heap.size w w' := by
 have hu67 := Tryd.underlying67
 have HR0 := Aside0.mk hr0
 have HC0 := Aside0.mk hc0
 clear hr0 hc0
 have HR2 := Aside0.mk hr2
 have HC2 := Aside0.mk hc2
 clear hr2 hc2
 have HB := Aside0.mk (Below.refl w.heap.size w)
 have H : ((value_word.f l0 a1).bind fun bt187 => (if bt187.1 = 1 then (value_Keyword.l0 k a1 l2 (l2.length : Int) 0 bt187.1 bt187.2.1 bt187.2.2.1 bt187.2.2.2) else (some ((-1), a1)))) = some (r1, r2) := h
 clear h
 replace H := Option.bind_eq_some_iff.mp H
 obtain ⟨⟨t187, t188, t189, t190⟩, A40, H⟩ := H
 try dsimp only at H
 have A4 := Aside0.mk A40
 clear A40
 by_cases c5 : t187 = 1
 ·rw [if_pos c5] at H
  have c5b0 : (t187 == 1) = true := beq_iff_eq.mpr c5
  have c5b1 : (t187 != 1) = false := bne_eq_false_iff_eq.mpr c5
  clear c5
  have H' := Aside0.mk H
  clear H
  go_enter Tryd.func37, Tryd.ntmps37
  go_wp2_with (first | ((with_reducible refine gate_callee (f := 69) rfl ?_); refine goesL_ (some 13) rfl rfl Tryd.func69 (by kernel_rfl) rfl #[.slice A0 l0.length c0, .int .i64 a1] rfl goa_ ?_; (with_reducible refine (value_word.calls _ _ l0 a1 t187 t188 t189 t190 _ ?side1 ?side2 A4.out).mono ?_); (case side1 => repeat (first | exact HR0.out | (with_reducible refine Kd.C_alloc ?_ _) | (with_reducible refine Kd.C_drewN ?_ _) | (with_reducible refine Kd.C_drew ?_))); (case side2 => exact HC0.out); rintro e w6 ⟨rfl, hb⟩; refine ⟨_, rfl, ?_⟩; have n0_ := Aside0.mk (below_step bel_ hb); clear HB; have HB := n0_; clear n0_; clear hb) | ((with_reducible refine gate_dst (N := 8) rfl ?_); refine box_event ?hg (N := 8) ?hd (cs := #[.int .i64 0, .int .i64 0, .string (⟨#[]⟩ : ByteArray), .string (⟨#[]⟩ : ByteArray)]) (t := 67) ?hr ?_; (case hd => rfl); (case hg => rfl); (case hr => first | (go_simp; done) | (go_simp; rfl)); intro gb191 hg w7 hbox hb; have n0_ := Aside0.mk (below_step bel_ hb); have n1_ := Aside0.mk (hbox); have n2_ := Aside0.mk ((bsz_ hg : w.heap.size ≤ gb191)); have n3_ := Aside0.mk ((bsz_ hg : w.heap.size ≤ gb191)); clear HB; have HB := n0_; have BK191 := n1_; have GW191 := n2_; have GE191 := n3_; clear n0_ n1_ n2_ n3_; clear hb hbox hg; have hcz8_0 : w7.cell? ⟨gb191, 0, none⟩ = some (.int .i64 0) := (blk_cell BK191.out 0).trans rfl; have hcz8_1 : w7.cell? ⟨gb191, 1, none⟩ = some (.int .i64 0) := (blk_cell BK191.out 1).trans rfl; have hcz8_2 : w7.cell? ⟨gb191, 2, none⟩ = some (.string (⟨#[]⟩ : ByteArray)) := (blk_cell BK191.out 2).trans rfl; have hcz8_3 : w7.cell? ⟨gb191, 3, none⟩ = some (.string (⟨#[]⟩ : ByteArray)) := (blk_cell BK191.out 3).trans rfl; have hfz8_0 := blk_frozen BK191.out 0; have hfz8_1 := blk_frozen BK191.out 1; have hfz8_2 := blk_frozen BK191.out 2; have hfz8_3 := blk_frozen BK191.out 3))
  go_loopg [19] k (fun kq v19 w' => ∃ (x19_1 : Int), v19 = .int .i64 x19_1 ∧ Aside0 (value_Keyword.l0 kq a1 l2 (l2.length : Int) x19_1 t187 t188 t189 t190 = some (r1, r2)) ∧ Aside0 (kq ≤ k) ∧ Aside0 (w'.heap[gb191]? = some (.cells #[.int .i64 t187, .int .i64 t188, .string t189, .string t190] 67 (0, 0))) ∧ Aside0 (Below w.heap.size w w'))
  case atStart => exact ⟨(0), rfs_, H', ⟨Nat.le_refl _⟩, ⟨by (with_reducible repeat (first | refine blk_drewN ?_ _ | refine blk_drew ?_ | refine blk_alloc ?_ _)); refine blk_put (cs := #[.int .i64 t187, .int .i64 t188, .string t189, .string (⟨#[]⟩ : ByteArray)]) ?_ 3 _ rfl; (with_reducible repeat (first | refine blk_drewN ?_ _ | refine blk_drew ?_ | refine blk_alloc ?_ _)); refine blk_put (cs := #[.int .i64 t187, .int .i64 t188, .string (⟨#[]⟩ : ByteArray), .string (⟨#[]⟩ : ByteArray)]) ?_ 2 _ rfl; (with_reducible repeat (first | refine blk_drewN ?_ _ | refine blk_drew ?_ | refine blk_alloc ?_ _)); refine blk_put (cs := #[.int .i64 t187, .int .i64 0, .string (⟨#[]⟩ : ByteArray), .string (⟨#[]⟩ : ByteArray)]) ?_ 1 _ rfl; (with_reducible repeat (first | refine blk_drewN ?_ _ | refine blk_drew ?_ | refine blk_alloc ?_ _)); refine blk_put (cs := #[.int .i64 0, .int .i64 0, .string (⟨#[]⟩ : ByteArray), .string (⟨#[]⟩ : ByteArray)]) ?_ 0 _ rfl; (with_reducible repeat (first | refine blk_drewN ?_ _ | refine blk_drew ?_ | refine blk_alloc ?_ _)); exact BK191.out⟩, ⟨bel_⟩⟩
  case round =>
   clear H'
   try clear c2
   try clear p2
   try clear c3
   try clear c5
   try clear c5b0
   try clear c5b1
   try clear c6
   try clear hcz8_0
   try clear hcz8_1
   try clear hcz8_2
   try clear hcz8_3
   try clear hfz8_0
   try clear hfz8_1
   try clear hfz8_2
   try clear hfz8_3
   obtain ⟨x19_1, rfl, HA, HK1, BK191, HB⟩ := hrel
   cases gk with
   | zero => exact absurd HA.out (by simp [value_Keyword.l0])
   | succ k1 =>
    have H := HA.out
    clear HA
    simp only [value_Keyword.l0] at H
    by_cases c9 : x19_1 < (l2.length : Int)
    ·rw [if_pos c9] at H
     have c9b0 : decide (x19_1 < (l2.length : Int)) = true := decide_eq_true c9
     clear c9
     by_cases c10 : 0 ≤ x19_1
     ·rw [if_pos c10] at H
      have c10b0 : decide (0 ≤ x19_1) = true := decide_eq_true c10
      clear c10
      by_cases c11 : x19_1 < (l2.length : Int)
      ·rw [if_pos c11] at H
       have c11b0 : decide (x19_1 < (l2.length : Int)) = true := decide_eq_true c11
       clear c11
       replace H := Option.bind_eq_some_iff.mp H
       obtain ⟨t193, A120, H⟩ := H
       try dsimp only at H
       have A12 := Aside0.mk A120
       clear A120
       by_cases c13 : t193 = true
       ·subst c13
        rw [if_pos rfl] at H
        simp only [Option.some.injEq, Prod.mk.injEq] at H
        obtain ⟨rfl, rfl⟩ := H
        have p192 : 0 ≤ (x19_1 : Int) := of_decide_eq_true (by first | (with_reducible assumption) | assumption)
        have q192 : x19_1 < (l2.length : Int) := of_decide_eq_true (by first | (with_reducible assumption) | assumption)
        obtain ⟨ad192, e192, hx192_0⟩ := Kd.at_string HR2.out x19_1 p192 q192
        cases e192
        replace hx192_0 := (HB.out.cell (World.block_lt_of_cell? w _ hx192_0)).trans hx192_0
        replace p192 := eq_true p192
        replace q192 := eq_true q192
        have hcz14_0 : wr.cell? ⟨gb191, 0, none⟩ = some (.int .i64 t187) := (blk_cell BK191.out 0).trans rfl
        have hcz14_1 : wr.cell? ⟨gb191, 1, none⟩ = some (.int .i64 t188) := (blk_cell BK191.out 1).trans rfl
        have hcz14_2 : wr.cell? ⟨gb191, 2, none⟩ = some (.string t189) := (blk_cell BK191.out 2).trans rfl
        have hcz14_3 : wr.cell? ⟨gb191, 3, none⟩ = some (.string t190) := (blk_cell BK191.out 3).trans rfl
        have hfz14_0 := blk_frozen BK191.out 0
        have hfz14_1 := blk_frozen BK191.out 1
        have hfz14_2 := blk_frozen BK191.out 2
        have hfz14_3 := blk_frozen BK191.out 3
        go_wp2_with (first | ((with_reducible refine gate_callee (f := 47) rfl ?_); refine goesL_ (some 27) rfl rfl Tryd.func47 (by kernel_rfl) rfl #[.string t189, .string (rdOf ByteArray.empty l2 x19_1)] rfl goa_ ?_; (with_reducible refine (ident_Is.calls t189 (rdOf ByteArray.empty l2 x19_1) true _ A12.out).mono ?_); rintro e w15 ⟨rfl, hb⟩; refine ⟨_, rfl, ?_⟩; have n0_ := blb_ BK191 hb; have n1_ := Aside0.mk (below_step bel_ hb); clear BK191; clear HB; have BK191 := n0_; have HB := n1_; clear n0_ n1_; clear hb))
        go_ret2
        exact ⟨rsl_, bel_⟩
       ·replace c13 := Bool.eq_false_iff.mpr c13
        subst c13
        rw [if_neg (show ¬ (false = true) by decide)] at H
        have H' := Aside0.mk H
        clear H
        have p192 : 0 ≤ (x19_1 : Int) := of_decide_eq_true (by first | (with_reducible assumption) | assumption)
        have q192 : x19_1 < (l2.length : Int) := of_decide_eq_true (by first | (with_reducible assumption) | assumption)
        obtain ⟨ad192, e192, hx192_0⟩ := Kd.at_string HR2.out x19_1 p192 q192
        cases e192
        replace hx192_0 := (HB.out.cell (World.block_lt_of_cell? w _ hx192_0)).trans hx192_0
        replace p192 := eq_true p192
        replace q192 := eq_true q192
        have hcz16_0 : wr.cell? ⟨gb191, 0, none⟩ = some (.int .i64 t187) := (blk_cell BK191.out 0).trans rfl
        have hcz16_1 : wr.cell? ⟨gb191, 1, none⟩ = some (.int .i64 t188) := (blk_cell BK191.out 1).trans rfl
        have hcz16_2 : wr.cell? ⟨gb191, 2, none⟩ = some (.string t189) := (blk_cell BK191.out 2).trans rfl
        have hcz16_3 : wr.cell? ⟨gb191, 3, none⟩ = some (.string t190) := (blk_cell BK191.out 3).trans rfl
        have hfz16_0 := blk_frozen BK191.out 0
        have hfz16_1 := blk_frozen BK191.out 1
        have hfz16_2 := blk_frozen BK191.out 2
        have hfz16_3 := blk_frozen BK191.out 3
        go_wp2_with (first | ((with_reducible refine gate_callee (f := 47) rfl ?_); refine goesL_ (some 27) rfl rfl Tryd.func47 (by kernel_rfl) rfl #[.string t189, .string (rdOf ByteArray.empty l2 x19_1)] rfl goa_ ?_; (with_reducible refine (ident_Is.calls t189 (rdOf ByteArray.empty l2 x19_1) false _ A12.out).mono ?_); rintro e w17 ⟨rfl, hb⟩; refine ⟨_, rfl, ?_⟩; have n0_ := blb_ BK191 hb; have n1_ := Aside0.mk (below_step bel_ hb); clear BK191; clear HB; have BK191 := n0_; have HB := n1_; clear n0_ n1_; clear hb))
        go_roundg k1
        case measure => have := HK1.out; omega
        case rel => exact ⟨(wrap64 (x19_1 + 1)), rfs_, H', ⟨by have := HK1.out; omega⟩, ⟨blk_⟩, ⟨bel_⟩⟩
      ·rw [if_neg c11] at H
       exact absurd H (by simp)
     ·rw [if_neg c10] at H
      exact absurd H (by simp)
    ·rw [if_neg c9] at H
     have c9b0 : decide (x19_1 < (l2.length : Int)) = false := decide_eq_false c9
     clear c9
     simp only [Option.some.injEq, Prod.mk.injEq] at H
     obtain ⟨rfl, rfl⟩ := H
     go_wp2
     go_ret2
     exact ⟨rsl_, bel_⟩
 ·rw [if_neg c5] at H
  have c5b0 : (t187 == 1) = false := beq_eq_false_iff_ne.mpr c5
  have c5b1 : (t187 != 1) = true := bne_iff_ne.mpr c5
  simp only [Option.some.injEq, Prod.mk.injEq] at H
  obtain ⟨rfl, rfl⟩ := H
  go_enter Tryd.func37, Tryd.ntmps37
  go_wp2_with (first | ((with_reducible refine gate_callee (f := 69) rfl ?_); refine goesL_ (some 13) rfl rfl Tryd.func69 (by kernel_rfl) rfl #[.slice A0 l0.length c0, .int .i64 a1] rfl goa_ ?_; (with_reducible refine (value_word.calls _ _ l0 a1 t187 t188 t189 t190 _ ?side1 ?side2 A4.out).mono ?_); (case side1 => repeat (first | exact HR0.out | (with_reducible refine Kd.C_alloc ?_ _) | (with_reducible refine Kd.C_drewN ?_ _) | (with_reducible refine Kd.C_drew ?_))); (case side2 => exact HC0.out); rintro e w18 ⟨rfl, hb⟩; refine ⟨_, rfl, ?_⟩; have n0_ := Aside0.mk (below_step bel_ hb); clear HB; have HB := n0_; clear n0_; clear hb) | ((with_reducible refine gate_dst (N := 8) rfl ?_); refine box_event ?hg (N := 8) ?hd (cs := #[.int .i64 0, .int .i64 0, .string (⟨#[]⟩ : ByteArray), .string (⟨#[]⟩ : ByteArray)]) (t := 67) ?hr ?_; (case hd => rfl); (case hg => rfl); (case hr => first | (go_simp; done) | (go_simp; rfl)); intro gb191 hg w19 hbox hb; have n0_ := Aside0.mk (below_step bel_ hb); have n1_ := Aside0.mk (hbox); have n2_ := Aside0.mk ((bsz_ hg : w.heap.size ≤ gb191)); have n3_ := Aside0.mk ((bsz_ hg : w.heap.size ≤ gb191)); clear HB; have HB := n0_; have BK191 := n1_; have GW191 := n2_; have GE191 := n3_; clear n0_ n1_ n2_ n3_; clear hb hbox hg; have hcz20_0 : w19.cell? ⟨gb191, 0, none⟩ = some (.int .i64 0) := (blk_cell BK191.out 0).trans rfl; have hcz20_1 : w19.cell? ⟨gb191, 1, none⟩ = some (.int .i64 0) := (blk_cell BK191.out 1).trans rfl; have hcz20_2 : w19.cell? ⟨gb191, 2, none⟩ = some (.string (⟨#[]⟩ : ByteArray)) := (blk_cell BK191.out 2).trans rfl; have hcz20_3 : w19.cell? ⟨gb191, 3, none⟩ = some (.string (⟨#[]⟩ : ByteArray)) := (blk_cell BK191.out 3).trans rfl; have hfz20_0 := blk_frozen BK191.out 0; have hfz20_1 := blk_frozen BK191.out 1; have hfz20_2 := blk_frozen BK191.out 2; have hfz20_3 := blk_frozen BK191.out 3))
  go_ret2
  exact ⟨rsl_, bel_⟩

/-! ### strings_Index: function 88 -/
def strings_Index.f (a0 a1 : ByteArray) : Option (Int) := if a1.size = 1 then some (Lib.indexByte a0.data.toList (a1.data.toList.headD 0)) else none
theorem strings_Index.calls (a0 a1 : ByteArray) (r : Int) (w : World) (h : strings_Index.f a0 a1 = some r) :
  Calls Tryd.prog 88 #[.string a0, .string a1] w fun e w' => e = .returned (.int .i64 r) ∧ Drawn0 w w' := by
 unfold strings_Index.f at h
 by_cases h1 : a1.size = 1
 ·rw [if_pos h1] at h
  obtain ⟨c, rfl⟩ : ∃ c, a1 = ⟨#[c]⟩ := by
   have h2 : a1.data.toList.length = 1 := by rw [Array.length_toList]; exact h1
   obtain ⟨c, hc⟩ := List.length_eq_one_iff.1 h2
   refine ⟨c, Go.WideShapes.bytes_inj ?_⟩
   rw [hc]
  refine (Tryd.strings_Index_one a0 c w).mono ?_
  rintro e w' ⟨rfl, rfl⟩
  exact ⟨by rw [← Option.some.inj h]; rfl, Drawn0.refl _⟩
 ·rw [if_neg h1] at h
  cases h

/-! ### strings_Contains: function 76 -/
def strings_Contains.f (a0 : ByteArray) (a1 : ByteArray) : Option (Bool) := (strings_Index.f a0 a1).bind fun t194 => (some (decide (t194 ≥ 0)))
set_option maxHeartbeats 8000000 in
set_option maxRecDepth 100000 in
theorem strings_Contains.calls (a0 : ByteArray) (a1 : ByteArray) (r : Bool) (w : World) (h : strings_Contains.f a0 a1 = some r) :
  Calls Tryd.prog 76 #[.string a0, .string a1] w fun e w' => e = .returned (.bool r) ∧ Drawn0 w w' := by
 have H : ((strings_Index.f a0 a1).bind fun t194 => (some (decide (t194 ≥ 0)))) = some r := h
 clear h
 replace H := Option.bind_eq_some_iff.mp H
 obtain ⟨t194, A30, H⟩ := H
 try dsimp only at H
 have A3 := Aside0.mk A30
 clear A30
 obtain rfl := Option.some.inj H
 go_enter Tryd.func76, Tryd.ntmps76
 go_wp2_with (first | ((with_reducible refine gate_callee (f := 88) rfl ?_); refine goesL_ (some 7) rfl rfl Tryd.func88 (by kernel_rfl) rfl #[.string a0, .string a1] rfl goa_ ?_; (with_reducible refine (strings_Index.calls a0 a1 t194 _ A3.out).mono ?_); rintro e w' ⟨rfl, ⟨nd, rfl⟩⟩; refine ⟨_, rfl, ?_⟩))
 go_ret
 exact ⟨by first | rfl | (simp; done) | (simp [*]; done), drs_⟩

/-! ### number_isScale: function 118 -/
def number_isScale.f (a0 : Int) : Option (Bool) := if a0 = 1 then (some true) else (if a0 = 64 then (some true) else (some (a0 == 1000)))
set_option maxHeartbeats 8000000 in
set_option maxRecDepth 100000 in
theorem number_isScale.calls (a0 : Int) (r : Bool) (w : World) (h : number_isScale.f a0 = some r) :
  Calls Tryd.prog 118 #[.int .i64 a0] w fun e w' => e = .returned (.bool r) ∧ Drawn0 w w' := by
 have H : (if a0 = 1 then (some true) else (if a0 = 64 then (some true) else (some (a0 == 1000)))) = some r := h
 clear h
 by_cases c2 : a0 = 1
 ·rw [if_pos c2] at H
  have c2b0 : (a0 == 1) = true := beq_iff_eq.mpr c2
  have c2b1 : (a0 != 1) = false := bne_eq_false_iff_eq.mpr c2
  clear c2
  obtain rfl := Option.some.inj H
  go_enter Tryd.func118, Tryd.ntmps118
  go_wp2
  go_ret
  exact ⟨by first | rfl | (simp; done) | (simp [*]; done), drs_⟩
 ·rw [if_neg c2] at H
  have c2b0 : (a0 == 1) = false := beq_eq_false_iff_ne.mpr c2
  have c2b1 : (a0 != 1) = true := bne_iff_ne.mpr c2
  by_cases c3 : a0 = 64
  ·rw [if_pos c3] at H
   have c3b0 : (a0 == 64) = true := beq_iff_eq.mpr c3
   have c3b1 : (a0 != 64) = false := bne_eq_false_iff_eq.mpr c3
   clear c3
   obtain rfl := Option.some.inj H
   go_enter Tryd.func118, Tryd.ntmps118
   go_wp2
   go_ret
   exact ⟨by first | rfl | (simp; done) | (simp [*]; done), drs_⟩
  ·rw [if_neg c3] at H
   have c3b0 : (a0 == 64) = false := beq_eq_false_iff_ne.mpr c3
   have c3b1 : (a0 != 64) = true := bne_iff_ne.mpr c3
   obtain rfl := Option.some.inj H
   go_enter Tryd.func118, Tryd.ntmps118
   go_wp2
   go_ret
   exact ⟨by first | rfl | (simp; done) | (simp [*]; done), drs_⟩

end Go.Proofs.YtofdhdafabmhmaaDoor.PLa
end
section
namespace Go.Proofs.YtofdhdafabmhmaaDoor.PLa
open Go.RowKit Go.Proofs.YtofdhdafabmhmaaDoorW.PrintWords Go.Proofs.YtofdhdafabmhmaaDoorW.PrintLast Go.Proofs.YtofdhdafabmhmaaDoorW.PrintMore
attribute [local go_sem] max2_int min2_int max_two min_two max_three min_three max_four min_four
open Go.Proofs.YtofdhdafabmhmaaDoor.Opn Go.Proofs.YtofdhdafabmhmaaDoor.Giv

/-! ### number_scaled: function 119 -/
mutual
def number_scaled.j1 : Nat → List Int → Int → Int → Option (Int × Bool)
 | 0, _, _, _ => none
 | k + 1, x0, x1, x2 => if (x0.length : Int) = 0 then (number_scaled.j2 k x0 x1 x2 true) else (number_scaled.j2 k x0 x1 x2 (decide (x1 < (-5))))
def number_scaled.j2 : Nat → List Int → Int → Int → Bool → Option (Int × Bool)
 | 0, _, _, _, _ => none
 | k + 1, x0, x1, x2, x28 => if x28 = true then (some (0, true)) else (if x1 > 13 then (some (0, false)) else (number_scaled.l1 k x0 x1 x2 0 (mx 0 x1) 0))
def number_scaled.l1 : Nat → List Int → Int → Int → Int → Int → Int → Option (Int × Bool)
 | 0, _, _, _, _, _, _ => none
 | k + 1, x0, x1, x2, x8, x40, x41 => if x41 < x40 then (if x41 < (x0.length : Int) then (if 0 ≤ x41 then (number_scaled.l1 k x0 x1 x2 (wrap64 ((wrap64 (x8 * 10)) + (wrap64 (rd x0 x41)))) x40 (wrap64 (x41 + 1))) else (none)) else (number_scaled.l1 k x0 x1 x2 (wrap64 (x8 * 10)) x40 (wrap64 (x41 + 1)))) else (number_scaled.l2 k x0 x1 x2 x8 ([] : List Int) (mx 0 (wrap64 (-x1))) 0)
def number_scaled.l2 : Nat → List Int → Int → Int → Int → List Int → Int → Int → Option (Int × Bool)
 | 0, _, _, _, _, _, _, _ => none
 | k + 1, x0, x1, x2, x8, x10, x60, x61 => if x61 < x60 then (if x10.length < 140737488355328 then (number_scaled.l2 k x0 x1 x2 x8 (x10 ++ [0]) x60 (wrap64 (x61 + 1))) else (none)) else (if 0 ≤ (mn (x0.length : Int) (mx 0 x1)) then (if (mn (x0.length : Int) (mx 0 x1)) ≤ (x0.length : Int) then ((some (x0.drop ((mn (x0.length : Int) (mx 0 x1)) : Int).toNat : List Int)).bind fun y205 => (if x10.length + y205.length < 140737488355328 then ((some (x10 ++ y205 : List Int)).bind fun y210 => (number_scaled.l3 k x2 x8 y210 0 (wrap64 ((y210.length : Int) - 1)))) else (none))) else (none)) else (none))
def number_scaled.l3 : Nat → Int → Int → List Int → Int → Int → Option (Int × Bool)
 | 0, _, _, _, _, _ => none
 | k + 1, x2, x8, x10, x11, x12 => if x12 ≥ 0 then (if 0 ≤ x12 then (if x12 < (x10.length : Int) then (number_scaled.l3 k x2 x8 (x10.set (x12 : Int).toNat ((Int.tmod (wrap64 ((wrap64 ((wrap64 (rd x10 x12)) * x2)) + x11)) 10) % 256)) (wrap64 (Int.tdiv (wrap64 ((wrap64 ((wrap64 (rd x10 x12)) * x2)) + x11)) 10)) (wrap64 (x12 - 1))) else (none)) else (none)) else (if (x10.length : Int) > 0 then (if 0 < (x10.length : Int) then (if (rd x10 0) ≥ 5 then (some (wrap64 ((wrap64 ((wrap64 (x8 * x2)) + x11)) + 1), decide ((wrap64 ((wrap64 ((wrap64 (x8 * x2)) + x11)) + 1)) ≤ 68719476736))) else (some (wrap64 ((wrap64 (x8 * x2)) + x11), decide ((wrap64 ((wrap64 (x8 * x2)) + x11)) ≤ 68719476736)))) else (none)) else (some (wrap64 ((wrap64 (x8 * x2)) + x11), decide ((wrap64 ((wrap64 (x8 * x2)) + x11)) ≤ 68719476736))))
def number_scaled.l0 : Nat → List Int → Int → Int → Option (Int × Bool)
 | 0, _, _, _ => none
 | k + 1, x0, x1, x2 => if (x0.length : Int) > 0 then (if 0 < (x0.length : Int) then (if (rd x0 0) = 0 then (if 1 ≤ (x0.length : Int) then (number_scaled.l0 k (x0.drop 1) (wrap64 (x1 - 1)) x2) else (none)) else (number_scaled.j1 k x0 x1 x2)) else (none)) else (number_scaled.j1 k x0 x1 x2)
end
def number_scaled.f (k : Nat) (l0 : List Int) (a1 : Int) (a2 : Int) : Option (Int × Bool) := number_scaled.l0 k l0 a1 a2
theorem number_scaled.mono_l : ∀ k, (∀ y0 y1 y2, LeO (number_scaled.j1 k y0 y1 y2) (number_scaled.j1 (k + 1) y0 y1 y2)) ∧ (∀ y0 y1 y2 y3, LeO (number_scaled.j2 k y0 y1 y2 y3) (number_scaled.j2 (k + 1) y0 y1 y2 y3)) ∧ (∀ y0 y1 y2 y3 y4 y5, LeO (number_scaled.l1 k y0 y1 y2 y3 y4 y5) (number_scaled.l1 (k + 1) y0 y1 y2 y3 y4 y5)) ∧ (∀ y0 y1 y2 y3 y4 y5 y6, LeO (number_scaled.l2 k y0 y1 y2 y3 y4 y5 y6) (number_scaled.l2 (k + 1) y0 y1 y2 y3 y4 y5 y6)) ∧ (∀ y0 y1 y2 y3 y4, LeO (number_scaled.l3 k y0 y1 y2 y3 y4) (number_scaled.l3 (k + 1) y0 y1 y2 y3 y4)) ∧ (∀ y0 y1 y2, LeO (number_scaled.l0 k y0 y1 y2) (number_scaled.l0 (k + 1) y0 y1 y2))
 | 0 => ⟨fun _ _ _ r h => by simp [number_scaled.j1] at h, fun _ _ _ _ r h => by simp [number_scaled.j2] at h, fun _ _ _ _ _ _ r h => by simp [number_scaled.l1] at h, fun _ _ _ _ _ _ _ r h => by simp [number_scaled.l2] at h, fun _ _ _ _ _ r h => by simp [number_scaled.l3] at h, fun _ _ _ r h => by simp [number_scaled.l0] at h⟩
 | k + 1 => by
  obtain ⟨ih0, ih1, ih2, ih3, ih4, ih5⟩ := number_scaled.mono_l k
  refine ⟨?_, ?_, ?_, ?_, ?_, ?_⟩
  ·intro y0 y1 y2
   unfold number_scaled.j1
   repeat' first
   | (with_reducible exact ih0 _ _ _)
   | (with_reducible exact ih1 _ _ _ _)
   | (with_reducible exact ih2 _ _ _ _ _ _)
   | (with_reducible exact ih3 _ _ _ _ _ _ _)
   | (with_reducible exact ih4 _ _ _ _ _)
   | (with_reducible exact ih5 _ _ _)
   | (with_reducible exact LeO.refl _)
   | (with_reducible exact LeO.none _)
   | (with_reducible refine LeO.ite ?_ ?_)
   | (with_reducible refine LeO.bind ?_ (fun _ => ?_))
  ·intro y0 y1 y2 y3
   unfold number_scaled.j2
   repeat' first
   | (with_reducible exact ih0 _ _ _)
   | (with_reducible exact ih1 _ _ _ _)
   | (with_reducible exact ih2 _ _ _ _ _ _)
   | (with_reducible exact ih3 _ _ _ _ _ _ _)
   | (with_reducible exact ih4 _ _ _ _ _)
   | (with_reducible exact ih5 _ _ _)
   | (with_reducible exact LeO.refl _)
   | (with_reducible exact LeO.none _)
   | (with_reducible refine LeO.ite ?_ ?_)
   | (with_reducible refine LeO.bind ?_ (fun _ => ?_))
  ·intro y0 y1 y2 y3 y4 y5
   unfold number_scaled.l1
   repeat' first
   | (with_reducible exact ih0 _ _ _)
   | (with_reducible exact ih1 _ _ _ _)
   | (with_reducible exact ih2 _ _ _ _ _ _)
   | (with_reducible exact ih3 _ _ _ _ _ _ _)
   | (with_reducible exact ih4 _ _ _ _ _)
   | (with_reducible exact ih5 _ _ _)
   | (with_reducible exact LeO.refl _)
   | (with_reducible exact LeO.none _)
   | (with_reducible refine LeO.ite ?_ ?_)
   | (with_reducible refine LeO.bind ?_ (fun _ => ?_))
  ·intro y0 y1 y2 y3 y4 y5 y6
   unfold number_scaled.l2
   repeat' first
   | (with_reducible exact ih0 _ _ _)
   | (with_reducible exact ih1 _ _ _ _)
   | (with_reducible exact ih2 _ _ _ _ _ _)
   | (with_reducible exact ih3 _ _ _ _ _ _ _)
   | (with_reducible exact ih4 _ _ _ _ _)
   | (with_reducible exact ih5 _ _ _)
   | (with_reducible exact LeO.refl _)
   | (with_reducible exact LeO.none _)
   | (with_reducible refine LeO.ite ?_ ?_)
   | (with_reducible refine LeO.bind ?_ (fun _ => ?_))
  ·intro y0 y1 y2 y3 y4
   unfold number_scaled.l3
   repeat' first
   | (with_reducible exact ih0 _ _ _)
   | (with_reducible exact ih1 _ _ _ _)
   | (with_reducible exact ih2 _ _ _ _ _ _)
   | (with_reducible exact ih3 _ _ _ _ _ _ _)
   | (with_reducible exact ih4 _ _ _ _ _)
   | (with_reducible exact ih5 _ _ _)
   | (with_reducible exact LeO.refl _)
   | (with_reducible exact LeO.none _)
   | (with_reducible refine LeO.ite ?_ ?_)
   | (with_reducible refine LeO.bind ?_ (fun _ => ?_))
  ·intro y0 y1 y2
   unfold number_scaled.l0
   repeat' first
   | (with_reducible exact ih0 _ _ _)
   | (with_reducible exact ih1 _ _ _ _)
   | (with_reducible exact ih2 _ _ _ _ _ _)
   | (with_reducible exact ih3 _ _ _ _ _ _ _)
   | (with_reducible exact ih4 _ _ _ _ _)
   | (with_reducible exact ih5 _ _ _)
   | (with_reducible exact LeO.refl _)
   | (with_reducible exact LeO.none _)
   | (with_reducible refine LeO.ite ?_ ?_)
   | (with_reducible refine LeO.bind ?_ (fun _ => ?_))
theorem number_scaled.mono : ∀ a0 a1 a2 k, LeO (number_scaled.f k a0 a1 a2) (number_scaled.f (k + 1) a0 a1 a2) := by
 intro a0 a1 a2 k
 obtain ⟨ih0, ih1, ih2, ih3, ih4, ih5⟩ := number_scaled.mono_l k
 unfold number_scaled.f
 repeat' first
   | (with_reducible exact ih0 _ _ _)
   | (with_reducible exact ih1 _ _ _ _)
   | (with_reducible exact ih2 _ _ _ _ _ _)
   | (with_reducible exact ih3 _ _ _ _ _ _ _)
   | (with_reducible exact ih4 _ _ _ _ _)
   | (with_reducible exact ih5 _ _ _)
   | (with_reducible exact LeO.refl _)
   | (with_reducible exact LeO.none _)
   | (with_reducible refine LeO.ite ?_ ?_)
   | (with_reducible refine LeO.bind ?_ (fun _ => ?_))
set_option maxHeartbeats 8000000 in
set_option maxRecDepth 100000 in
theorem number_scaled.calls (k : Nat) (P0_ : Nat → Prop) (A0 : Option Addr) (c0 : Nat) (l0 : List Int) (a1 : Int) (a2 : Int) (r1 : Int) (r2 : Bool) (w : World) (hs0 : Kd.V (Kd.int .u8) 5 w w.heap.size (fun k_ => P0_ k_) (.slice A0 l0.length c0) l0) (h : number_scaled.f k l0 a1 a2 = some (r1, r2)) :
  Calls Tryd.prog 119 #[.slice A0 l0.length c0, .int .i64 a1, .int .i64 a2] w fun e w' => e = .returned (.tuple #[.int .i64 r1, .bool r2]) ∧ Below w.heap.size w w' := by
 have HO0 := Aside0.mk (show Kd.V (Kd.int .u8) 5 w w.heap.size (fun k_ => (P0_ k_ ∨ w.heap.size ≤ k_)) (.slice A0 l0.length c0) l0 from Kd.V_mono hs0 (fun k_ hk => .inl hk))
 have HB := Aside0.mk (Below.refl w.heap.size w)
 have H : (number_scaled.l0 k l0 a1 a2) = some (r1, r2) := h
 clear h
 have HC4 := Aside0.mk H
 clear H
 go_enter Tryd.func119, Tryd.ntmps119
 go_upto_block 0 with (fail)
 go_cut [0, 1] (fun v0 v1 wc => ∃ (kq : Nat) (x0_3 : List Int) (x1_3 : Int), v1 = .int .i64 x1_3 ∧ Aside0 (number_scaled.j1 kq x0_3 x1_3 a2 = some (r1, r2)) ∧ Aside0 (kq ≤ k) ∧ Aside0 (Kd.V (Kd.int .u8) 5 wc w.heap.size (fun k_ => (P0_ k_ ∨ w.heap.size ≤ k_)) v0 x0_3) ∧ Aside0 (Below w.heap.size w wc))
 case first =>
  have H := HC4.out
  clear HC4
  have H' := Aside0.mk H
  clear H
  go_wp2
  go_loopg [0, 1] k (fun kq v0 v1 w' => ∃ (x0_1 : List Int) (x1_1 : Int), v1 = .int .i64 x1_1 ∧ Aside0 (number_scaled.l0 kq x0_1 x1_1 a2 = some (r1, r2)) ∧ Aside0 (kq ≤ k) ∧ Aside0 (Kd.V (Kd.int .u8) 5 w' w.heap.size (fun k_ => (P0_ k_ ∨ w.heap.size ≤ k_)) v0 x0_1) ∧ Aside0 (Below w.heap.size w w'))
  case atStart => exact ⟨(l0), (a1), rfs_, H', ⟨Nat.le_refl _⟩, ⟨by (with_reducible repeat (first | apply Kd.V_alloc | apply Kd.V_drewN | apply Kd.V_drew)); exact HO0.out⟩, ⟨bel_⟩⟩
  case round =>
   clear H'
   try clear c1
   try clear p2
   obtain ⟨x0_1, x1_1, rfl, HA, HK1, HO_0, HB⟩ := hrel
   cases gk with
   | zero => exact absurd HA.out (by simp [number_scaled.l0])
   | succ k1 =>
    have H := HA.out
    clear HA
    simp only [number_scaled.l0] at H
    by_cases c5 : (x0_1.length : Int) > 0
    ·rw [if_pos c5] at H
     have c5b0 : decide (0 < (x0_1.length : Int)) = true := decide_eq_true c5
     have c5b1 : decide (0 < x0_1.length) = true := decide_eq_true (by omega)
     clear c5
     (first | rw [c5b0] | (simp only [i64_w, i32_w]; rw [c5b0]) | skip)
     by_cases c6 : 0 < (x0_1.length : Int)
     ·rw [if_pos c6] at H
      have c6b0 : decide (0 < (x0_1.length : Int)) = true := decide_eq_true c6
      have c6b1 : decide (0 < x0_1.length) = true := decide_eq_true (by omega)
      clear c6
      by_cases c7 : (rd x0_1 0) = 0
      ·rw [if_pos c7] at H
       have c7b0 : ((rd x0_1 0) == 0) = true := beq_iff_eq.mpr c7
       have c7b1 : ((rd x0_1 0) != 0) = false := bne_eq_false_iff_eq.mpr c7
       clear c7
       by_cases c8 : 1 ≤ (x0_1.length : Int)
       ·rw [if_pos c8] at H
        have c8b0 := eq_true c8
        have c8b1 : decide (1 ≤ (x0_1.length : Int)) = true := decide_eq_true c8
        clear c8
        obtain ⟨y196, hy196⟩ : ∃ y_ : List Int, y_ = (x0_1.drop 1) := ⟨_, rfl⟩
        replace H : (number_scaled.l0 k1 y196 (wrap64 (x1_1 - 1)) a2) = some (r1, r2) := by first | (rw [hy196]; with_reducible exact H) | (have H2_ := (Option.bind_some _ _).symm.trans H; rw [hy196]; with_reducible exact H2_) | (have H2_ := (Option.bind_some _ _).symm.trans H; with_reducible exact H2_) | with_reducible exact H | (rw [hy196]; exact H) | exact H
        have Ny196 := Aside0.mk hy196
        clear hy196
        have H' := Aside0.mk H
        clear H
        obtain ⟨Ao9, co9, eo9⟩ := Kd.V_slice HO_0.out
        subst eo9
        have p195 : 0 ≤ (0 : Int) := (by omega)
        have q195 : 0 < (x0_1.length : Int) := of_decide_eq_true (by first | (with_reducible assumption) | assumption)
        obtain ⟨ad195, e195, hx195_0⟩ := Kd.at_int (Kd.V_reads' HO_0.out).2.2 0 p195 q195
        cases e195
        have qi195 : (0 < x0_1.length) = True := eq_true (by omega)
        (try rw [show ((0 : Int)).toNat = 0 from rfl] at hx195_0)
        (try rw [Addr.add_zero'] at hx195_0)
        replace p195 := eq_true p195
        replace q195 := eq_true q195
        have q10 : (1 : Int) ≤ ((x0_1.length : Int) : Int) := of_decide_eq_true (by first | (with_reducible assumption) | assumption)
        obtain ⟨i010, hi010, _, hsz10, _⟩ := info_parts info5
        have hroom10 : x0_1.length ≤ co9 := (Kd.V_reads' HO_0.out).2.1
        have hC10 : Kd.F (Kd.int .u8) _ _ (some ad195) x0_1.length x0_1 := (Kd.V_at (base := w.heap.size) HO_0.out).2.2
        have hcut10 := cut_from (P := Tryd.prog) 63 5 .i64 Tryd.underlying63 hi010 1 hsz10 (some ad195) x0_1.length co9 1 (by omega) q10
        have hr10 := Kd.F_cut (m := (1 : Int).toNat) (c := co9) hC10 (by omega) hroom10
        obtain ⟨A10, hA10⟩ : ∃ A1, A1 = (if co9 = (1 : Int).toNat then (some ad195) else ((some ad195) : Option Addr).map (·.add ((1 : Int).toNat * 1))) := ⟨_, rfl⟩
        obtain ⟨c10, hc10⟩ : ∃ c1, c1 = co9 - (1 : Int).toNat := ⟨_, rfl⟩
        have hy10 : y196.length = x0_1.length - (1 : Int).toNat := (by rw [Ny196.out, List.length_drop] <;> omega)
        rw [show (x0_1).drop (1 : Int).toNat = y196 from Ny196.out.symm] at hr10
        replace hr10 : Kd.F (Kd.int .u8) _ _ A10 y196.length y196 := (by rw [hA10]; exact hr10)
        rw [← hy10, ← hA10, ← hc10] at hcut10
        have HO200 := Aside0.mk (show Kd.V (Kd.int .u8) 5 _ w.heap.size _ (.slice A10 y196.length c10) y196 from Kd.V_mk (by rw [hy10, hc10]; exact Nat.sub_le_sub_right hroom10 _) hr10)
        have HC200 := Aside0.mk (show y196.length ≤ c10 from by rw [hy10, hc10]; exact Nat.sub_le_sub_right hroom10 _)
        clear hr10 hC10 hroom10 hi010 hsz10 hc10
        have KY10 := Aside0.mk hy10
        have KA10 := Aside0.mk hA10
        clear hy10 hA10
        replace q10 := eq_true q10
        go_wp2
        go_roundg k1
        case measure => have := HK1.out; omega
        case rel => exact ⟨(y196), (wrap64 (x1_1 - 1)), rfs_, H', ⟨by have := HK1.out; omega⟩, ⟨by (with_reducible repeat (first | apply Kd.V_alloc | apply Kd.V_drewN | apply Kd.V_drew)); exact HO200.out⟩, ⟨bel_⟩⟩
       ·rw [if_neg c8] at H
        exact absurd H (by simp)
      ·rw [if_neg c7] at H
       have c7b0 : ((rd x0_1 0) == 0) = false := beq_eq_false_iff_ne.mpr c7
       have c7b1 : ((rd x0_1 0) != 0) = true := bne_iff_ne.mpr c7
       have H' := Aside0.mk H
       clear H
       obtain ⟨Ao11, co11, eo11⟩ := Kd.V_slice HO_0.out
       subst eo11
       have p195 : 0 ≤ (0 : Int) := (by omega)
       have q195 : 0 < (x0_1.length : Int) := of_decide_eq_true (by first | (with_reducible assumption) | assumption)
       obtain ⟨ad195, e195, hx195_0⟩ := Kd.at_int (Kd.V_reads' HO_0.out).2.2 0 p195 q195
       cases e195
       have qi195 : (0 < x0_1.length) = True := eq_true (by omega)
       (try rw [show ((0 : Int)).toNat = 0 from rfl] at hx195_0)
       (try rw [Addr.add_zero'] at hx195_0)
       replace p195 := eq_true p195
       replace q195 := eq_true q195
       go_wp2
       go_meet
       case rel => exact ⟨_, (x0_1), (x1_1), rfs_, H', ⟨by have := HK1.out; first | omega | exact Nat.le_refl _⟩, ⟨by (with_reducible repeat (first | apply Kd.V_alloc | apply Kd.V_drewN | apply Kd.V_drew)); exact HO_0.out⟩, ⟨bel_⟩⟩
     ·rw [if_neg c6] at H
      exact absurd H (by simp)
    ·rw [if_neg c5] at H
     have c5b0 : decide (0 < (x0_1.length : Int)) = false := decide_eq_false c5
     have c5b1 : decide (0 < x0_1.length) = false := decide_eq_false (by omega)
     clear c5
     (first | rw [c5b0] | (simp only [i64_w, i32_w]; rw [c5b0]) | skip)
     have H' := Aside0.mk H
     clear H
     obtain ⟨Ao12, co12, eo12⟩ := Kd.V_slice HO_0.out
     subst eo12
     go_wp2
     go_meet
     case rel => exact ⟨_, (x0_1), (x1_1), rfs_, H', ⟨by have := HK1.out; first | omega | exact Nat.le_refl _⟩, ⟨by (with_reducible repeat (first | apply Kd.V_alloc | apply Kd.V_drewN | apply Kd.V_drew)); exact HO_0.out⟩, ⟨bel_⟩⟩
 case rest =>
  clear HC4
  try clear c1
  try clear p1
  try clear q1
  try clear hx1
  try clear qi1
  try clear p2
  try clear c5
  try clear c5b0
  try clear c5b1
  try clear c6
  try clear c6b0
  try clear c6b1
  try clear p6
  try clear c7
  try clear c7b0
  try clear c7b1
  try clear c8
  try clear c8b0
  try clear c8b1
  try clear c10
  try clear q10
  try clear c11
  try clear hx195_0
  try clear p195
  try clear p2
  try clear q10
  try clear q195
  obtain ⟨kq, x0_3, x1_3, rfl, HA, HJ3, HO_0, HB⟩ := hcut
  cases kq with
  | zero => exact absurd HA.out (by simp [number_scaled.j1])
  | succ kj3 =>
   have H := HA.out
   clear HA
   simp only [number_scaled.j1] at H
   have HC13 := Aside0.mk H
   clear H
   go_upto_region 4 with (fail)
   go_cut [28] (fun v28 wc => ∃ (kq : Nat) (x28_12 : Bool), v28 = .bool x28_12 ∧ Aside0 (number_scaled.j2 kq x0_3 x1_3 a2 x28_12 = some (r1, r2)) ∧ Aside0 (kq ≤ kj3) ∧ Aside0 (Kd.V (Kd.int .u8) 5 wc w.heap.size (fun k_ => (P0_ k_ ∨ w.heap.size ≤ k_)) u0 x0_3) ∧ Aside0 (Below w.heap.size w wc))
   case first =>
    have H := HC13.out
    clear HC13
    by_cases c14 : (x0_3.length : Int) = 0
    ·rw [if_pos c14] at H
     have c14b0 : ((x0_3.length : Int) == 0) = true := beq_iff_eq.mpr c14
     have c14b1 : ((x0_3.length : Int) != 0) = false := bne_eq_false_iff_eq.mpr c14
     clear c14
     (first | rw [c14b0] | (simp only [i64_w, i32_w]; rw [c14b0]) | skip)
     have H' := Aside0.mk H
     clear H
     obtain ⟨Ao15, co15, eo15⟩ := Kd.V_slice HO_0.out
     subst eo15
     go_wp2
     go_meet
     case rel => exact ⟨_, (true), rfs_, H', ⟨by have := HJ3.out; first | omega | exact Nat.le_refl _⟩, ⟨by (with_reducible repeat (first | apply Kd.V_alloc | apply Kd.V_drewN | apply Kd.V_drew)); exact HO_0.out⟩, ⟨bel_⟩⟩
    ·rw [if_neg c14] at H
     have c14b0 : ((x0_3.length : Int) == 0) = false := beq_eq_false_iff_ne.mpr c14
     have c14b1 : ((x0_3.length : Int) != 0) = true := bne_iff_ne.mpr c14
     have c14b2 : ¬ (x0_3 = []) := fun h_ => c14 (by rw [h_]; rfl)
     (first | rw [c14b0] | (simp only [i64_w, i32_w]; rw [c14b0]) | skip)
     have H' := Aside0.mk H
     clear H
     obtain ⟨Ao16, co16, eo16⟩ := Kd.V_slice HO_0.out
     subst eo16
     go_wp2
     go_meet
     case rel => exact ⟨_, (decide (x1_3 < (-5))), rfs_, H', ⟨by have := HJ3.out; first | omega | exact Nat.le_refl _⟩, ⟨by (with_reducible repeat (first | apply Kd.V_alloc | apply Kd.V_drewN | apply Kd.V_drew)); exact HO_0.out⟩, ⟨bel_⟩⟩
   case rest =>
    clear HC13
    try clear c1
    try clear p1
    try clear q1
    try clear hx1
    try clear qi1
    try clear p2
    try clear c5
    try clear c5b0
    try clear c5b1
    try clear c6
    try clear c6b0
    try clear c6b1
    try clear p6
    try clear c7
    try clear c7b0
    try clear c7b1
    try clear c8
    try clear c8b0
    try clear c8b1
    try clear c10
    try clear q10
    try clear c11
    try clear c14
    try clear c14b0
    try clear c14b1
    try clear c14b2
    try clear hx195_0
    try clear p1
    try clear p195
    try clear p2
    try clear p6
    try clear q1
    try clear q10
    try clear q195
    obtain ⟨kq, x28_12, rfl, HA, HJ12, HO_0, HB⟩ := hcut
    cases kq with
    | zero => exact absurd HA.out (by simp [number_scaled.j2])
    | succ kj12 =>
     have H := HA.out
     clear HA
     simp only [number_scaled.j2] at H
     by_cases c17 : x28_12 = true
     ·subst c17
      rw [if_pos rfl] at H
      simp only [Option.some.injEq, Prod.mk.injEq] at H
      obtain ⟨rfl, rfl⟩ := H
      go_wp2
      go_ret2
      exact ⟨rsl_, bel_⟩
     ·replace c17 := Bool.eq_false_iff.mpr c17
      subst c17
      rw [if_neg (show ¬ (false = true) by decide)] at H
      by_cases c18 : x1_3 > 13
      ·rw [if_pos c18] at H
       have c18b0 : decide (13 < x1_3) = true := decide_eq_true c18
       clear c18
       simp only [Option.some.injEq, Prod.mk.injEq] at H
       obtain ⟨rfl, rfl⟩ := H
       go_wp2
       go_ret2
       exact ⟨rsl_, bel_⟩
      ·rw [if_neg c18] at H
       have c18b0 : decide (13 < x1_3) = false := decide_eq_false c18
       clear c18
       obtain ⟨ji19, hji19⟩ : ∃ j_ : Int, (mx 0 x1_3) = j_ := ⟨_, rfl⟩
       replace H : (number_scaled.l1 kj12 x0_3 x1_3 a2 0 ji19 0) = some (r1, r2) := by first | (rw [hji19] at H; exact H) | (simp only [hji19] at H ⊢; exact H)
       have hji19_ : (if 0 < x1_3 then x1_3 else 0) = ji19 := hji19
       have H' := Aside0.mk H
       clear H
       go_wp2
       go_loopg [8, 41] kj12 (fun kq v8 v41 w' => ∃ (x8_3 : Int) (x41_3 : Int), v8 = .int .i64 x8_3 ∧ v41 = .int .i64 x41_3 ∧ Aside0 (number_scaled.l1 kq x0_3 x1_3 a2 x8_3 ji19 x41_3 = some (r1, r2)) ∧ Aside0 (kq ≤ kj12) ∧ Aside0 (Kd.V (Kd.int .u8) 5 w' w.heap.size (fun k_ => (P0_ k_ ∨ w.heap.size ≤ k_)) u0 x0_3) ∧ Aside0 (Below w.heap.size w w'))
       case atStart => exact ⟨(0), (0), rfs_, rfs_, H', ⟨Nat.le_refl _⟩, ⟨by (with_reducible repeat (first | apply Kd.V_alloc | apply Kd.V_drewN | apply Kd.V_drew)); exact HO_0.out⟩, ⟨bel_⟩⟩
       case round =>
        clear H'
        try clear c1
        try clear p1
        try clear q1
        try clear hx1
        try clear qi1
        try clear p2
        try clear c5
        try clear c5b0
        try clear c5b1
        try clear c6
        try clear c6b0
        try clear c6b1
        try clear p6
        try clear c7
        try clear c7b0
        try clear c7b1
        try clear c8
        try clear c8b0
        try clear c8b1
        try clear c10
        try clear q10
        try clear c11
        try clear c14
        try clear c14b0
        try clear c14b1
        try clear c14b2
        try clear c17
        try clear c18
        try clear c18b0
        try clear p19
        try clear q19
        try clear hx19
        try clear qi19
        try clear hx195_0
        try clear p1
        try clear p195
        try clear p2
        try clear p6
        try clear q1
        try clear q10
        try clear q195
        obtain ⟨x8_3, x41_3, rfl, rfl, HA, HK3, HO_0, HB⟩ := hrel
        cases gk with
        | zero => exact absurd HA.out (by simp [number_scaled.l1])
        | succ k3 =>
         have H := HA.out
         clear HA
         simp only [number_scaled.l1] at H
         by_cases c20 : x41_3 < ji19
         ·rw [if_pos c20] at H
          have c20b0 : decide (x41_3 < ji19) = true := decide_eq_true c20
          clear c20
          by_cases c21 : x41_3 < (x0_3.length : Int)
          ·rw [if_pos c21] at H
           have c21b0 : decide (x41_3 < (x0_3.length : Int)) = true := decide_eq_true c21
           clear c21
           by_cases c22 : 0 ≤ x41_3
           ·rw [if_pos c22] at H
            have c22b0 : decide (0 ≤ x41_3) = true := decide_eq_true c22
            clear c22
            have H' := Aside0.mk H
            clear H
            obtain ⟨Ao23, co23, eo23⟩ := Kd.V_slice HO_0.out
            subst eo23
            have p201 : 0 ≤ (x41_3 : Int) := of_decide_eq_true (by first | (with_reducible assumption) | assumption)
            have q201 : x41_3 < (x0_3.length : Int) := of_decide_eq_true (by first | (with_reducible assumption) | assumption)
            obtain ⟨ad201, e201, hx201_0⟩ := Kd.at_int (Kd.V_reads' HO_0.out).2.2 x41_3 p201 q201
            cases e201
            replace p201 := eq_true p201
            replace q201 := eq_true q201
            go_wp2
            go_roundg k3
            case measure => have := HJ3.out; have := HJ12.out; have := HK3.out; omega
            case rel => exact ⟨(wrap64 ((wrap64 (x8_3 * 10)) + (wrap64 (rd x0_3 x41_3)))), (wrap64 (x41_3 + 1)), rfs_, rfs_, H', ⟨by have := HJ3.out; have := HJ12.out; have := HK3.out; omega⟩, ⟨by (with_reducible repeat (first | apply Kd.V_alloc | apply Kd.V_drewN | apply Kd.V_drew)); exact HO_0.out⟩, ⟨bel_⟩⟩
           ·rw [if_neg c22] at H
            exact absurd H (by simp)
          ·rw [if_neg c21] at H
           have c21b0 : decide (x41_3 < (x0_3.length : Int)) = false := decide_eq_false c21
           clear c21
           have H' := Aside0.mk H
           clear H
           obtain ⟨Ao24, co24, eo24⟩ := Kd.V_slice HO_0.out
           subst eo24
           go_wp2
           go_roundg k3
           case measure => have := HJ3.out; have := HJ12.out; have := HK3.out; omega
           case rel => exact ⟨(wrap64 (x8_3 * 10)), (wrap64 (x41_3 + 1)), rfs_, rfs_, H', ⟨by have := HJ3.out; have := HJ12.out; have := HK3.out; omega⟩, ⟨by (with_reducible repeat (first | apply Kd.V_alloc | apply Kd.V_drewN | apply Kd.V_drew)); exact HO_0.out⟩, ⟨bel_⟩⟩
         ·rw [if_neg c20] at H
          have c20b0 : decide (x41_3 < ji19) = false := decide_eq_false c20
          clear c20
          obtain ⟨ji25, hji25⟩ : ∃ j_ : Int, (mx 0 (wrap64 (-x1_3))) = j_ := ⟨_, rfl⟩
          replace H : (number_scaled.l2 k3 x0_3 x1_3 a2 x8_3 ([] : List Int) ji25 0) = some (r1, r2) := by first | (rw [hji25] at H; exact H) | (simp only [hji25] at H ⊢; exact H)
          have hji25_ : (if 0 < (wrap64 (-x1_3)) then (wrap64 (-x1_3)) else 0) = ji25 := hji25
          have H' := Aside0.mk H
          clear H
          go_wp2
          go_loopg [10, 61] k3 (fun kq v10 v61 w' => ∃ (x10_4 : List Int) (x61_4 : Int), v61 = .int .i64 x61_4 ∧ Aside0 (number_scaled.l2 kq x0_3 x1_3 a2 x8_3 x10_4 ji25 x61_4 = some (r1, r2)) ∧ Aside0 (kq ≤ k3) ∧ Aside0 (Kd.V (Kd.int .u8) 5 w' w.heap.size (fun k_ => (P0_ k_ ∨ w.heap.size ≤ k_) ∧ some k_ ≠ (v10 : Value).ownBlock) u0 x0_3) ∧ Aside0 (Kd.R (Kd.int .u8) 5 w' w.heap.size (fun k_ => (w.heap.size ≤ k_)) v10 x10_4) ∧ Aside0 (Below w.heap.size w w'))
          case atStart => exact ⟨(([] : List Int)), (0), rfs_, H', ⟨Nat.le_refl _⟩, ⟨by (with_reducible repeat (first | apply Kd.V_alloc | apply Kd.V_drewN | apply Kd.V_drew)); exact Kd.V_mono HO_0.out (fun _ hk => ⟨hk, (by simp [Value.ownBlock])⟩)⟩, ⟨by first | exact Kd.R_nil _ _ _ _ _ | exact Kd.N_nil _ _ _ _ _ | exact Kd.V_nil _ _ _ _ _ | exact Kd.Q_nil _ _ _ _ _ | exact Kd.S_nil _ _ _ _ _⟩, ⟨bel_⟩⟩
          case round =>
           clear H'
           try clear c1
           try clear p1
           try clear q1
           try clear hx1
           try clear qi1
           try clear c2
           try clear p2
           try clear q2
           try clear hx2
           try clear c5
           try clear c5b0
           try clear c5b1
           try clear c6
           try clear c6b0
           try clear c6b1
           try clear p6
           try clear c7
           try clear c7b0
           try clear c7b1
           try clear c8
           try clear c8b0
           try clear c8b1
           try clear c10
           try clear q10
           try clear c11
           try clear c14
           try clear c14b0
           try clear c14b1
           try clear c14b2
           try clear c17
           try clear c18
           try clear c18b0
           try clear p19
           try clear q19
           try clear hx19
           try clear qi19
           try clear c20
           try clear c20b0
           try clear p20
           try clear q20
           try clear hx20
           try clear c21
           try clear c21b0
           try clear c22
           try clear c22b0
           try clear hx195_0
           try clear hx201_0
           try clear p1
           try clear p19
           try clear p195
           try clear p2
           try clear p201
           try clear p6
           try clear q1
           try clear q10
           try clear q19
           try clear q195
           try clear q201
           obtain ⟨x10_4, x61_4, rfl, HA, HK4, HO_0, HO_10, HB⟩ := hrel
           cases gk with
           | zero => exact absurd HA.out (by simp [number_scaled.l2])
           | succ k4 =>
            have H := HA.out
            clear HA
            simp only [number_scaled.l2] at H
            by_cases c26 : x61_4 < ji25
            ·rw [if_pos c26] at H
             have c26b0 : decide (x61_4 < ji25) = true := decide_eq_true c26
             clear c26
             by_cases c27 : x10_4.length < 140737488355328
             ·rw [if_pos c27] at H
              have LMc27 := Aside0.mk c27
              clear c27
              obtain ⟨y202, hy202⟩ : ∃ y_ : List Int, y_ = (x10_4 ++ [0]) := ⟨_, rfl⟩
              replace H : (number_scaled.l2 k4 x0_3 x1_3 a2 x8_3 y202 ji25 (wrap64 (x61_4 + 1))) = some (r1, r2) := by first | (rw [hy202]; with_reducible exact H) | (have H2_ := (Option.bind_some _ _).symm.trans H; rw [hy202]; with_reducible exact H2_) | (have H2_ := (Option.bind_some _ _).symm.trans H; with_reducible exact H2_) | with_reducible exact H | (rw [hy202]; exact H) | exact H
              have Ny202 := Aside0.mk hy202
              clear hy202
              have H' := Aside0.mk H
              clear H
              go_wp2_with (first | ((with_reducible refine gate_builtin (b := .append) (xs := #[.tmp 63, .tmp 64]) rfl ?_); at_builtin; refine Kd.R_append (Kd.int .u8) (w0 := w) w.heap.size rfl (.tmp 63) (.tmp 64) 63 5 (.int .u8 0) 1 rfl Tryd.underlying63 info5 rfl (by decide) (by omega) u10 x10_4 0 [.int .u8 0] (fun k_ => (w.heap.size ≤ k_)) (fun _ => False) rfl rfl ?aP (fun _ hk => hk.elim) ?aF ?aO ?aB ?aS ?aL ?_; (case aP => exact rfl); (case aB => exact bel_); (case aF => exact (fun k_ hk => (Nat.le_trans (below_size bel_) hk))); (case aO => exact (by (with_reducible repeat (first | apply Kd.R_alloc | apply Kd.R_drewN | apply Kd.R_drew)); exact HO_10.out)); (case aS => exact (below_size bel_)); (case aL => have := LMc27.out; omega); intro v203 w28 ho hb hg hat; rw [← Ny202.out] at ho; have n0_ := Aside0.mk (Kd.V_afterv (ok := (fun k_ => (P0_ k_ ∨ w.heap.size ≤ k_))) (by (with_reducible repeat (first | apply Kd.V_alloc | apply Kd.V_drewN | apply Kd.V_drew)); exact HO_0.out) hg hat); have n1_ := Aside0.mk (hb); have n2_ := Aside0.mk (ho); clear HO_0; clear HB; clear HO_10; have HO_0 := n0_; have HB := n1_; have HO204 := n2_; clear n0_ n1_ n2_; clear ho hb hg hat))
              go_roundg k4
              case measure => have := HJ3.out; have := HJ12.out; have := HK3.out; have := HK4.out; omega
              case rel => exact ⟨(y202), (wrap64 (x61_4 + 1)), rfs_, H', ⟨by have := HJ3.out; have := HJ12.out; have := HK3.out; have := HK4.out; omega⟩, ⟨by (with_reducible repeat (first | apply Kd.V_alloc | apply Kd.V_drewN | apply Kd.V_drew)); exact HO_0.out⟩, ⟨by (with_reducible repeat (first | apply Kd.R_alloc | apply Kd.R_drewN | apply Kd.R_drew)); exact HO204.out⟩, ⟨bel_⟩⟩
             ·rw [if_neg c27] at H
              exact absurd H (by simp)
            ·rw [if_neg c26] at H
             have c26b0 : decide (x61_4 < ji25) = false := decide_eq_false c26
             clear c26
             obtain ⟨ji29, hji29⟩ : ∃ j_ : Int, (mx 0 x1_3) = j_ := ⟨_, rfl⟩
             replace H : (if 0 ≤ (mn (x0_3.length : Int) (ji29)) then (if (mn (x0_3.length : Int) (ji29)) ≤ (x0_3.length : Int) then ((some (x0_3.drop ((mn (x0_3.length : Int) (ji29)) : Int).toNat : List Int)).bind fun y205 => (if x10_4.length + y205.length < 140737488355328 then ((some (x10_4 ++ y205 : List Int)).bind fun y210 => (number_scaled.l3 k4 a2 x8_3 y210 0 (wrap64 ((y210.length : Int) - 1)))) else (none))) else (none)) else (none)) = some (r1, r2) := by first | (rw [hji29] at H; exact H) | (simp only [hji29] at H ⊢; exact H)
             have hji29_ : (if 0 < x1_3 then x1_3 else 0) = ji29 := hji29
             have ji19_ji29_ : ji19 = ji29 := hji19_.symm.trans hji29_
             obtain ⟨ji30, hji30⟩ : ∃ j_ : Int, (mn (x0_3.length : Int) (ji29)) = j_ := ⟨_, rfl⟩
             replace H : (if 0 ≤ (ji30) then (if (ji30) ≤ (x0_3.length : Int) then ((some (x0_3.drop ((ji30) : Int).toNat : List Int)).bind fun y205 => (if x10_4.length + y205.length < 140737488355328 then ((some (x10_4 ++ y205 : List Int)).bind fun y210 => (number_scaled.l3 k4 a2 x8_3 y210 0 (wrap64 ((y210.length : Int) - 1)))) else (none))) else (none)) else (none)) = some (r1, r2) := by first | (rw [hji30] at H; exact H) | (simp only [hji30] at H ⊢; exact H)
             have hji30_ : (if (ji29) < (x0_3.length : Int) then (ji29) else (x0_3.length : Int)) = ji30 := hji30
             by_cases c31 : 0 ≤ (ji30)
             ·rw [if_pos c31] at H
              have c31b0 := eq_true c31
              have c31b1 : decide (0 ≤ (ji30)) = true := decide_eq_true c31
              clear c31
              by_cases c32 : (ji30) ≤ (x0_3.length : Int)
              ·rw [if_pos c32] at H
               have c32b0 := eq_true c32
               have c32b1 : decide ((ji30) ≤ (x0_3.length : Int)) = true := decide_eq_true c32
               clear c32
               obtain ⟨y205, hy205⟩ : ∃ y_ : List Int, y_ = (x0_3.drop ((ji30) : Int).toNat) := ⟨_, rfl⟩
               replace H : (if x10_4.length + y205.length < 140737488355328 then ((some (x10_4 ++ y205 : List Int)).bind fun y210 => (number_scaled.l3 k4 a2 x8_3 y210 0 (wrap64 ((y210.length : Int) - 1)))) else (none)) = some (r1, r2) := by first | (rw [hy205]; with_reducible exact H) | (have H2_ := (Option.bind_some _ _).symm.trans H; rw [hy205]; with_reducible exact H2_) | (have H2_ := (Option.bind_some _ _).symm.trans H; with_reducible exact H2_) | with_reducible exact H | (rw [hy205]; exact H) | exact H
               have Ny205 := Aside0.mk hy205
               clear hy205
               by_cases c33 : x10_4.length + y205.length < 140737488355328
               ·rw [if_pos c33] at H
                have LMc33 := Aside0.mk c33
                clear c33
                obtain ⟨y210, hy210⟩ : ∃ y_ : List Int, y_ = (x10_4 ++ y205) := ⟨_, rfl⟩
                replace H : (number_scaled.l3 k4 a2 x8_3 y210 0 (wrap64 ((y210.length : Int) - 1))) = some (r1, r2) := by first | (rw [hy210]; with_reducible exact H) | (have H2_ := (Option.bind_some _ _).symm.trans H; rw [hy210]; with_reducible exact H2_) | (have H2_ := (Option.bind_some _ _).symm.trans H; with_reducible exact H2_) | with_reducible exact H | (rw [hy210]; exact H) | exact H
                have Ny210 := Aside0.mk hy210
                clear hy210
                have H' := Aside0.mk H
                clear H
                obtain ⟨Ao34, co34, eo34⟩ := Kd.V_slice HO_0.out
                subst eo34
                have q35 : ((ji30) : Int) ≤ ((x0_3.length : Int) : Int) := of_decide_eq_true (by first | (with_reducible assumption) | assumption)
                obtain ⟨i035, hi035, _, hsz35, _⟩ := info_parts info5
                have hroom35 : x0_3.length ≤ co34 := (Kd.V_reads' HO_0.out).2.1
                have hC35 : Kd.F (Kd.int .u8) _ _ Ao34 x0_3.length x0_3 := (Kd.V_at (base := w.heap.size) HO_0.out).2.2
                have q035 : (0 : Int) ≤ ((ji30) : Int) := of_decide_eq_true (by first | (with_reducible assumption) | assumption)
                have hcut35 := cut_from (P := Tryd.prog) 63 5 .i64 Tryd.underlying63 hi035 1 hsz35 Ao34 x0_3.length co34 (ji30) q035 q35
                have hr35 := Kd.F_cut (m := ((ji30) : Int).toNat) (c := co34) hC35 (by omega) hroom35
                obtain ⟨A35, hA35⟩ : ∃ A1, A1 = (if co34 = ((ji30) : Int).toNat then Ao34 else (Ao34 : Option Addr).map (·.add (((ji30) : Int).toNat * 1))) := ⟨_, rfl⟩
                obtain ⟨c35, hc35⟩ : ∃ c1, c1 = co34 - ((ji30) : Int).toNat := ⟨_, rfl⟩
                have hy35 : y205.length = x0_3.length - ((ji30) : Int).toNat := (by rw [Ny205.out, List.length_drop] <;> omega)
                rw [show (x0_3).drop ((ji30) : Int).toNat = y205 from Ny205.out.symm] at hr35
                replace hr35 : Kd.F (Kd.int .u8) _ _ A35 y205.length y205 := (by rw [hA35]; exact hr35)
                rw [← hy35, ← hA35, ← hc35] at hcut35
                have HO209 := Aside0.mk (show Kd.V (Kd.int .u8) 5 _ w.heap.size _ (.slice A35 y205.length c35) y205 from Kd.V_mk (by rw [hy35, hc35]; exact Nat.sub_le_sub_right hroom35 _) hr35)
                have HC209 := Aside0.mk (show y205.length ≤ c35 from by rw [hy35, hc35]; exact Nat.sub_le_sub_right hroom35 _)
                clear hr35 hC35 hroom35 hi035 hsz35 hc35
                have KY35 := Aside0.mk hy35
                have KA35 := Aside0.mk hA35
                clear hy35 hA35
                replace q35 := eq_true q35
                go_wp2_with (first | ((with_reducible refine gate_builtin (b := .append) (xs := #[.tmp 67, .tmp 74]) rfl ?_); at_builtin; refine Kd.R_append_rows (Kd.int .u8) (w0 := w) w.heap.size rfl (.tmp 67) (.tmp 74) 63 5 (.int .u8 0) 1 rfl Tryd.underlying63 info5 rfl (by decide) (by omega) u10 x10_4 y205 _ _ _ (fun k_ => (w.heap.size ≤ k_)) (fun _ => False) rfl rfl ?aO ?aR (fun _ _ h => h) (fun _ h => h.elim) ?aF ?aB ?aS ?aL ?_; (case aR => repeat (first | exact (Kd.V_reads' HO209.out).2.2 | (with_reducible refine Kd.C_alloc ?_ _) | (with_reducible refine Kd.C_drewN ?_ _) | (with_reducible refine Kd.C_drew ?_))); (case aB => exact bel_); (case aF => exact (fun k_ hk => (Nat.le_trans (below_size bel_) hk))); (case aO => exact (by (with_reducible repeat (first | apply Kd.R_alloc | apply Kd.R_drewN | apply Kd.R_drew)); exact HO_10.out)); (case aS => exact (below_size bel_)); (case aL => have := LMc33.out; omega); intro v211 w36 ho hb hg hat; rw [← Ny210.out] at ho; have n0_ := Aside0.mk (Kd.V_afterv (ok := (fun k_ => (P0_ k_ ∨ w.heap.size ≤ k_))) (by (with_reducible repeat (first | apply Kd.V_alloc | apply Kd.V_drewN | apply Kd.V_drew)); exact HO_0.out) hg hat); have n1_ := Aside0.mk (Kd.V_afterv (ok := (fun k_ => (P0_ k_ ∨ w.heap.size ≤ k_))) (by (with_reducible repeat (first | apply Kd.V_alloc | apply Kd.V_drewN | apply Kd.V_drew)); exact HO209.out) hg hat); have n2_ := Aside0.mk (hb); have n3_ := Aside0.mk (ho); clear HO_0; clear HO209; clear HB; clear HO_10; have HO_0 := n0_; have HO209 := n1_; have HB := n2_; have HO212 := n3_; clear n0_ n1_ n2_ n3_; clear ho hb hg hat; obtain ⟨Ao37, co37, eo37⟩ := Kd.R_slice HO212.out; subst eo37))
                go_loopg [11, 12] k4 (fun kq v11 v12 w' => ∃ (x10_5 : List Int) (x11_5 : Int) (x12_5 : Int), v11 = .int .i64 x11_5 ∧ v12 = .int .i64 x12_5 ∧ Aside0 (number_scaled.l3 kq a2 x8_3 x10_5 x11_5 x12_5 = some (r1, r2)) ∧ Aside0 (kq ≤ k4) ∧ Aside0 (Kd.R (Kd.int .u8) 5 w' w.heap.size (fun k_ => (w.heap.size ≤ k_)) (.slice Ao37 y210.length co37) x10_5) ∧ Aside0 (Below w.heap.size w w'))
                case atStart => exact ⟨(y210), (0), (wrap64 ((y210.length : Int) - 1)), rfs_, rfs_, H', ⟨Nat.le_refl _⟩, ⟨by (with_reducible repeat (first | apply Kd.R_alloc | apply Kd.R_drewN | apply Kd.R_drew)); exact HO212.out⟩, ⟨bel_⟩⟩
                case round =>
                 clear H'
                 try clear c1
                 try clear p1
                 try clear q1
                 try clear hx1
                 try clear qi1
                 try clear c2
                 try clear p2
                 try clear q2
                 try clear hx2
                 try clear c3
                 try clear q3
                 try clear c5
                 try clear c5b0
                 try clear c5b1
                 try clear c6
                 try clear c6b0
                 try clear c6b1
                 try clear p6
                 try clear c7
                 try clear c7b0
                 try clear c7b1
                 try clear c8
                 try clear c8b0
                 try clear c8b1
                 try clear c10
                 try clear q10
                 try clear c11
                 try clear c14
                 try clear c14b0
                 try clear c14b1
                 try clear c14b2
                 try clear c17
                 try clear c18
                 try clear c18b0
                 try clear p19
                 try clear q19
                 try clear hx19
                 try clear qi19
                 try clear c20
                 try clear c20b0
                 try clear p20
                 try clear q20
                 try clear hx20
                 try clear c21
                 try clear c21b0
                 try clear c22
                 try clear c22b0
                 try clear c26
                 try clear c26b0
                 try clear c27
                 try clear c31
                 try clear c31b0
                 try clear c31b1
                 try clear c32
                 try clear c32b0
                 try clear c32b1
                 try clear c33
                 try clear c35
                 try clear q35
                 try clear hx195_0
                 try clear hx201_0
                 try clear p1
                 try clear p19
                 try clear p195
                 try clear p2
                 try clear p20
                 try clear p201
                 try clear p6
                 try clear q035
                 try clear q1
                 try clear q10
                 try clear q19
                 try clear q195
                 try clear q2
                 try clear q20
                 try clear q201
                 try clear q35
                 obtain ⟨x10_5, x11_5, x12_5, rfl, rfl, HA, HK5, HO_10, HB⟩ := hrel
                 have hl10_5 := (Kd.R_reads' HO_10.out).1
                 rw [hl10_5] at HO_10
                 (try simp only [hl10_5])
                 cases gk with
                 | zero => exact absurd HA.out (by simp [number_scaled.l3])
                 | succ k5 =>
                  have H := HA.out
                  clear HA
                  simp only [number_scaled.l3] at H
                  by_cases c38 : x12_5 ≥ 0
                  ·rw [if_pos c38] at H
                   have c38b0 : decide (0 ≤ x12_5) = true := decide_eq_true c38
                   clear c38
                   by_cases c39 : 0 ≤ x12_5
                   ·rw [if_pos c39] at H
                    have c39b0 : decide (0 ≤ x12_5) = true := decide_eq_true c39
                    clear c39
                    by_cases c40 : x12_5 < (x10_5.length : Int)
                    ·rw [if_pos c40] at H
                     have c40b0 : decide (x12_5 < (x10_5.length : Int)) = true := decide_eq_true c40
                     have c40b9 := c40b0
                     try rw [hl10_5] at c40b9
                     clear c40
                     obtain ⟨y214, hy214⟩ : ∃ y_ : List Int, y_ = (x10_5.set (x12_5 : Int).toNat ((Int.tmod (wrap64 ((wrap64 ((wrap64 (rd x10_5 x12_5)) * a2)) + x11_5)) 10) % 256)) := ⟨_, rfl⟩
                     replace H : (number_scaled.l3 k5 a2 x8_3 y214 (wrap64 (Int.tdiv (wrap64 ((wrap64 ((wrap64 (rd x10_5 x12_5)) * a2)) + x11_5)) 10)) (wrap64 (x12_5 - 1))) = some (r1, r2) := by first | (rw [hy214]; with_reducible exact H) | (have H2_ := (Option.bind_some _ _).symm.trans H; rw [hy214]; with_reducible exact H2_) | (have H2_ := (Option.bind_some _ _).symm.trans H; with_reducible exact H2_) | with_reducible exact H | (rw [hy214]; exact H) | exact H
                     have Ny214 := Aside0.mk hy214
                     clear hy214
                     have H' := Aside0.mk H
                     clear H
                     have p213 : 0 ≤ (x12_5 : Int) := of_decide_eq_true (by first | (with_reducible assumption) | assumption)
                     have q213 : x12_5 < (x10_5.length : Int) := of_decide_eq_true (by first | (with_reducible assumption) | assumption)
                     obtain ⟨ad213, e213, hx213_0⟩ := Kd.at_int (Kd.R_reads' HO_10.out).2.2 x12_5 p213 q213
                     cases e213
                     replace p213 := eq_true p213
                     replace q213 := eq_true q213
                     have p41 : 0 ≤ (x12_5 : Int) := of_decide_eq_true (by first | (with_reducible assumption) | assumption)
                     have q41 : (x12_5 : Int) < ((x10_5.length : Int) : Int) := of_decide_eq_true (by first | (with_reducible assumption) | assumption)
                     obtain ⟨go41, co41, eo41, gb41, gl41, cl41, HG41⟩ := Kd.R_form HO_10.out (by omega)
                     (first | cases eo41 | (injection eo41 with ea_ en_ ec_; (first | subst ea_ | (injection ea_ with ea_; subst ea_)); subst ec_; clear en_))
                     have GB41 := Aside0.mk gb41
                     have GG41 := Aside0.mk HG41
                     clear gb41 gl41 HG41
                     (first | simp only [add_plain] at hx213_0 | skip)
                     obtain ⟨hx41_0, hf41_0⟩ := Kd.R_celln 0 HO_10.out (x12_5 : Int) p41 q41
                     replace p41 := eq_true p41
                     replace q41 := eq_true q41
                     have HP42 := Kd.R_putg HO_10.out (x12_5 : Int) ((Int.tmod (wrap64 ((wrap64 ((wrap64 (rd x10_5 x12_5)) * a2)) + x11_5)) 10) % 256)
                     go_wp2_with (first | ((with_reducible refine gate_store (t := 5) (p := 99) rfl ?_); refine store_event (t := 5) (p := 99) (v := ?vo_w43) (w1 := (wr.setCell ⟨go41, (x12_5 : Int).toNat, none⟩ (.int .u8 ((Int.tmod (wrap64 ((wrap64 ((wrap64 (rd x10_5 x12_5)) * a2)) + x11_5)) 10) % 256)))) ?hg ?ho ?hn ?hr ?_; (case ho => rfl); (case hg => rfl); (case hn => rfl); (case hr => first | (go_simp; done) | (go_simp; rfl)); intro w43 hw; have hg : wr.grownBy w43 (some go41) := (by rw [hw]; exact HP42.2); have hp_ : Kd.R (Kd.int .u8) 5 w43 w.heap.size (fun k_ => (w.heap.size ≤ k_)) (.slice (some ⟨go41, 0, none⟩) x10_5.length co37) y214 := (by rw [hw, Ny214.out]; exact HP42.1); clear HP42; have n0_ := Aside0.mk (hp_); have n1_ := Aside0.mk ((by rw [hw]; exact below_set (HB.out) GB41.out : Below w.heap.size w w43)); clear HO_10; clear HB; have HO_10 := n0_; have HB := n1_; clear n0_ n1_; clear hg hw hp_))
                     (try simp only [← hl10_5])
                     go_roundg k5
                     case measure => have := HJ3.out; have := HJ12.out; have := HK3.out; have := HK4.out; have := HK5.out; omega
                     case rel => exact ⟨(y214), (wrap64 (Int.tdiv (wrap64 ((wrap64 ((wrap64 (rd x10_5 x12_5)) * a2)) + x11_5)) 10)), (wrap64 (x12_5 - 1)), rfs_, rfs_, H', ⟨by have := HJ3.out; have := HJ12.out; have := HK3.out; have := HK4.out; have := HK5.out; omega⟩, ⟨by (try simp only [hl10_5]); (with_reducible repeat (first | apply Kd.R_alloc | apply Kd.R_drewN | apply Kd.R_drew)); exact HO_10.out⟩, ⟨bel_⟩⟩
                    ·rw [if_neg c40] at H
                     exact absurd H (by simp)
                   ·rw [if_neg c39] at H
                    exact absurd H (by simp)
                  ·rw [if_neg c38] at H
                   have c38b0 : decide (0 ≤ x12_5) = false := decide_eq_false c38
                   clear c38
                   by_cases c44 : (x10_5.length : Int) > 0
                   ·rw [if_pos c44] at H
                    have c44b0 : decide (0 < (x10_5.length : Int)) = true := decide_eq_true c44
                    have c44b9 := c44b0
                    try rw [hl10_5] at c44b9
                    have c44b1 : decide (0 < x10_5.length) = true := decide_eq_true (by omega)
                    clear c44
                    by_cases c45 : 0 < (x10_5.length : Int)
                    ·rw [if_pos c45] at H
                     have c45b0 : decide (0 < (x10_5.length : Int)) = true := decide_eq_true c45
                     have c45b9 := c45b0
                     try rw [hl10_5] at c45b9
                     have c45b1 : decide (0 < x10_5.length) = true := decide_eq_true (by omega)
                     clear c45
                     by_cases c46 : (rd x10_5 0) ≥ 5
                     ·rw [if_pos c46] at H
                      have c46b0 : decide (5 ≤ (rd x10_5 0)) = true := decide_eq_true c46
                      clear c46
                      simp only [Option.some.injEq, Prod.mk.injEq] at H
                      obtain ⟨rfl, rfl⟩ := H
                      have p215 : 0 ≤ (0 : Int) := (by omega)
                      have q215 : 0 < (x10_5.length : Int) := of_decide_eq_true (by first | (with_reducible assumption) | assumption)
                      obtain ⟨ad215, e215, hx215_0⟩ := Kd.at_int (Kd.R_reads' HO_10.out).2.2 0 p215 q215
                      cases e215
                      have qi215 : (0 < x10_5.length) = True := eq_true (by omega)
                      (try rw [show ((0 : Int)).toNat = 0 from rfl] at hx215_0)
                      (try rw [Addr.add_zero'] at hx215_0)
                      replace p215 := eq_true p215
                      replace q215 := eq_true q215
                      go_wp2
                      go_ret2
                      exact ⟨by first | rfl | (simp [errW_none, errW_some] <;> rfl) | (simp only [← hji19, ← hji25, ← hji29, ← hji30]; first | rfl | (simp [errW_none, errW_some] <;> rfl)) | (simp [*, errW_none, errW_some] <;> rfl), bel_⟩
                     ·rw [if_neg c46] at H
                      have c46b0 : decide (5 ≤ (rd x10_5 0)) = false := decide_eq_false c46
                      clear c46
                      simp only [Option.some.injEq, Prod.mk.injEq] at H
                      obtain ⟨rfl, rfl⟩ := H
                      have p215 : 0 ≤ (0 : Int) := (by omega)
                      have q215 : 0 < (x10_5.length : Int) := of_decide_eq_true (by first | (with_reducible assumption) | assumption)
                      obtain ⟨ad215, e215, hx215_0⟩ := Kd.at_int (Kd.R_reads' HO_10.out).2.2 0 p215 q215
                      cases e215
                      have qi215 : (0 < x10_5.length) = True := eq_true (by omega)
                      (try rw [show ((0 : Int)).toNat = 0 from rfl] at hx215_0)
                      (try rw [Addr.add_zero'] at hx215_0)
                      replace p215 := eq_true p215
                      replace q215 := eq_true q215
                      go_wp2
                      go_ret2
                      exact ⟨by first | rfl | (simp [errW_none, errW_some] <;> rfl) | (simp only [← hji19, ← hji25, ← hji29, ← hji30]; first | rfl | (simp [errW_none, errW_some] <;> rfl)) | (simp [*, errW_none, errW_some] <;> rfl), bel_⟩
                    ·rw [if_neg c45] at H
                     exact absurd H (by simp)
                   ·rw [if_neg c44] at H
                    have c44b0 : decide (0 < (x10_5.length : Int)) = false := decide_eq_false c44
                    have c44b9 := c44b0
                    try rw [hl10_5] at c44b9
                    have c44b1 : decide (0 < x10_5.length) = false := decide_eq_false (by omega)
                    clear c44
                    simp only [Option.some.injEq, Prod.mk.injEq] at H
                    obtain ⟨rfl, rfl⟩ := H
                    go_wp2
                    go_ret2
                    exact ⟨by first | rfl | (simp [errW_none, errW_some] <;> rfl) | (simp only [← hji19, ← hji25, ← hji29, ← hji30]; first | rfl | (simp [errW_none, errW_some] <;> rfl)) | (simp [*, errW_none, errW_some] <;> rfl), bel_⟩
               ·rw [if_neg c33] at H
                exact absurd H (by simp)
              ·rw [if_neg c32] at H
               exact absurd H (by simp)
             ·rw [if_neg c31] at H
              exact absurd H (by simp)

end Go.Proofs.YtofdhdafabmhmaaDoor.PLa
end
section
namespace Go.Proofs.YtofdhdafabmhmaaDoor.PLa
open Go.RowKit Go.Proofs.YtofdhdafabmhmaaDoorW.PrintWords Go.Proofs.YtofdhdafabmhmaaDoorW.PrintLast Go.Proofs.YtofdhdafabmhmaaDoorW.PrintMore
attribute [local go_sem] max2_int min2_int max_two min_two max_three min_three max_four min_four
open Go.Proofs.YtofdhdafabmhmaaDoor.Opn Go.Proofs.YtofdhdafabmhmaaDoor.Giv

/-! ### number_text_exponent: function 120 -/
def number_text_exponent.l0 : Nat → Int → Int → Int → Bool → ByteArray → ByteArray → ByteArray → Int → Option (Int)
 | 0, _, _, _, _, _, _, _, _ => none
 | k + 1, x3, x7, x8, x217000, x217001, x217002, x217003, x217004 => if x8 < x7 then (if 0 ≤ x8 then (if x8 < (x217003.size : Int) then ((number_digit.f (bt x217003 x8)).bind fun t217 => (if t217 = true then (number_text_exponent.l0 k (mn 1000 (wrap64 ((wrap64 (10 * x3)) + (((bt x217003 x8) - 48) % 256)))) x7 (wrap64 (x8 + 1)) x217000 x217001 x217002 x217003 x217004) else (number_text_exponent.l0 k x3 x7 (wrap64 (x8 + 1)) x217000 x217001 x217002 x217003 x217004))) else (none)) else (none)) else (if x217003.toList = ([] : List UInt8) then (some x3) else (if 0 < (x217003.size : Int) then (if (bt x217003 0) = 45 then (some (wrap64 (-x3))) else (some x3)) else (none)))
def number_text_exponent.f (k : Nat) (a0_0 : Bool) (a0_1 : ByteArray) (a0_2 : ByteArray) (a0_3 : ByteArray) (a0_4 : Int) : Option (Int) := number_text_exponent.l0 k 0 (a0_3.size : Int) 0 a0_0 a0_1 a0_2 a0_3 a0_4
theorem number_text_exponent.mono_l : ∀ k, (∀ y0 y1 y2 y3 y4 y5 y6 y7, LeO (number_text_exponent.l0 k y0 y1 y2 y3 y4 y5 y6 y7) (number_text_exponent.l0 (k + 1) y0 y1 y2 y3 y4 y5 y6 y7))
 | 0 => fun _ _ _ _ _ _ _ _ r h => by simp [number_text_exponent.l0] at h
 | k + 1 => by
  have ih0 := number_text_exponent.mono_l k
  ·intro y0 y1 y2 y3 y4 y5 y6 y7
   unfold number_text_exponent.l0
   repeat' first
   | (with_reducible exact ih0 _ _ _ _ _ _ _ _)
   | (with_reducible exact LeO.refl _)
   | (with_reducible exact LeO.none _)
   | (with_reducible refine LeO.ite ?_ ?_)
   | (with_reducible refine LeO.bind ?_ (fun _ => ?_))
theorem number_text_exponent.mono : ∀ a0 a1 a2 a3 a4 k, LeO (number_text_exponent.f k a0 a1 a2 a3 a4) (number_text_exponent.f (k + 1) a0 a1 a2 a3 a4) := by
 intro a0 a1 a2 a3 a4 k
 have ih0 := number_text_exponent.mono_l k
 unfold number_text_exponent.f
 repeat' first
   | (with_reducible exact ih0 _ _ _ _ _ _ _ _)
   | (with_reducible exact LeO.refl _)
   | (with_reducible exact LeO.none _)
   | (with_reducible refine LeO.ite ?_ ?_)
   | (with_reducible refine LeO.bind ?_ (fun _ => ?_))
set_option maxHeartbeats 8000000 in
set_option maxRecDepth 100000 in
theorem number_text_exponent.calls (k : Nat) (a0_0 : Bool) (a0_1 : ByteArray) (a0_2 : ByteArray) (a0_3 : ByteArray) (a0_4 : Int) (r : Int) (w : World) (h : number_text_exponent.f k a0_0 a0_1 a0_2 a0_3 a0_4 = some r) :
  Calls Tryd.prog 120 #[.agg #[.bool a0_0, .string a0_1, .string a0_2, .string a0_3, .int .i64 a0_4]] w fun e w' => e = .returned (.int .i64 r) ∧ Below w.heap.size w w' := by
 have hu133 := Tryd.underlying133
 have HB := Aside0.mk (Below.refl w.heap.size w)
 have H : (number_text_exponent.l0 k 0 (a0_3.size : Int) 0 a0_0 a0_1 a0_2 a0_3 a0_4) = some r := h
 clear h
 have H' := Aside0.mk H
 clear H
 go_enter Tryd.func120, Tryd.ntmps120
 go_wp2_with (first | ((with_reducible refine gate_dst (N := 1) rfl ?_); refine box_event ?hg (N := 1) ?hd (cs := #[.bool a0_0, .string a0_1, .string a0_2, .string a0_3, .int .i64 a0_4]) (t := 133) ?hr ?_; (case hd => rfl); (case hg => rfl); (case hr => first | (go_simp; done) | (go_simp; rfl)); intro gb216 hg w2 hbox hb; have n0_ := Aside0.mk (below_step bel_ hb); have n1_ := Aside0.mk (hbox); have n2_ := Aside0.mk ((bsz_ hg : w.heap.size ≤ gb216)); have n3_ := Aside0.mk ((bsz_ hg : w.heap.size ≤ gb216)); clear HB; have HB := n0_; have BK216 := n1_; have GW216 := n2_; have GE216 := n3_; clear n0_ n1_ n2_ n3_; clear hb hbox hg; have hcz3_0 : w2.cell? ⟨gb216, 0, none⟩ = some (.bool a0_0) := (blk_cell BK216.out 0).trans rfl; have hcz3_1 : w2.cell? ⟨gb216, 1, none⟩ = some (.string a0_1) := (blk_cell BK216.out 1).trans rfl; have hcz3_2 : w2.cell? ⟨gb216, 2, none⟩ = some (.string a0_2) := (blk_cell BK216.out 2).trans rfl; have hcz3_3 : w2.cell? ⟨gb216, 3, none⟩ = some (.string a0_3) := (blk_cell BK216.out 3).trans rfl; have hcz3_4 : w2.cell? ⟨gb216, 4, none⟩ = some (.int .i64 a0_4) := (blk_cell BK216.out 4).trans rfl; have hfz3_0 := blk_frozen BK216.out 0; have hfz3_1 := blk_frozen BK216.out 1; have hfz3_2 := blk_frozen BK216.out 2; have hfz3_3 := blk_frozen BK216.out 3; have hfz3_4 := blk_frozen BK216.out 4))
 go_loopg [3, 8] k (fun kq v3 v8 w' => ∃ (x3_1 : Int) (x8_1 : Int), v3 = .int .i64 x3_1 ∧ v8 = .int .i64 x8_1 ∧ Aside0 (number_text_exponent.l0 kq x3_1 (a0_3.size : Int) x8_1 a0_0 a0_1 a0_2 a0_3 a0_4 = some r) ∧ Aside0 (kq ≤ k) ∧ Aside0 (w'.heap[gb216]? = some (.cells #[.bool a0_0, .string a0_1, .string a0_2, .string a0_3, .int .i64 a0_4] 133 (0, 0))) ∧ Aside0 (Below w.heap.size w w'))
 case atStart => exact ⟨(0), (0), rfs_, rfs_, H', ⟨Nat.le_refl _⟩, ⟨blk_⟩, ⟨bel_⟩⟩
 case round =>
  clear H'
  try clear c1
  try clear p2
  try clear hcz3_0
  try clear hcz3_1
  try clear hcz3_2
  try clear hcz3_3
  try clear hcz3_4
  try clear hfz3_0
  try clear hfz3_1
  try clear hfz3_2
  try clear hfz3_3
  try clear hfz3_4
  obtain ⟨x3_1, x8_1, rfl, rfl, HA, HK1, BK216, HB⟩ := hrel
  cases gk with
  | zero => exact absurd HA.out (by simp [number_text_exponent.l0])
  | succ k1 =>
   have H := HA.out
   clear HA
   simp only [number_text_exponent.l0] at H
   by_cases c4 : x8_1 < (a0_3.size : Int)
   ·rw [if_pos c4] at H
    have c4b0 : decide (x8_1 < (a0_3.size : Int)) = true := decide_eq_true c4
    clear c4
    by_cases c5 : 0 ≤ x8_1
    ·rw [if_pos c5] at H
     have c5b0 : decide (0 ≤ x8_1) = true := decide_eq_true c5
     clear c5
     by_cases c6 : x8_1 < (a0_3.size : Int)
     ·rw [if_pos c6] at H
      have c6b0 : decide (x8_1 < (a0_3.size : Int)) = true := decide_eq_true c6
      clear c6
      replace H := Option.bind_eq_some_iff.mp H
      obtain ⟨t217, A80, H⟩ := H
      try dsimp only at H
      have A8 := Aside0.mk A80
      clear A80
      by_cases c9 : t217 = true
      ·subst c9
       rw [if_pos rfl] at H
       obtain ⟨ji11, hji11⟩ : ∃ j_ : Int, (mn 1000 (wrap64 ((wrap64 (10 * x3_1)) + (((bt a0_3 x8_1) - 48) % 256)))) = j_ := ⟨_, rfl⟩
       replace H : (number_text_exponent.l0 k1 ji11 (a0_3.size : Int) (wrap64 (x8_1 + 1)) a0_0 a0_1 a0_2 a0_3 a0_4) = some r := by first | (rw [hji11] at H; exact H) | (simp only [hji11] at H ⊢; exact H)
       (try rw [hji11] at A8)
       have hji11_ : (if (wrap64 ((wrap64 (10 * x3_1)) + (((bt a0_3 x8_1) - 48) % 256))) < 1000 then (wrap64 ((wrap64 (10 * x3_1)) + (((bt a0_3 x8_1) - 48) % 256))) else 1000) = ji11 := hji11
       have H' := Aside0.mk H
       clear H
       have hcz12_0 : wr.cell? ⟨gb216, 0, none⟩ = some (.bool a0_0) := (blk_cell BK216.out 0).trans rfl
       have hcz12_1 : wr.cell? ⟨gb216, 1, none⟩ = some (.string a0_1) := (blk_cell BK216.out 1).trans rfl
       have hcz12_2 : wr.cell? ⟨gb216, 2, none⟩ = some (.string a0_2) := (blk_cell BK216.out 2).trans rfl
       have hcz12_3 : wr.cell? ⟨gb216, 3, none⟩ = some (.string a0_3) := (blk_cell BK216.out 3).trans rfl
       have hcz12_4 : wr.cell? ⟨gb216, 4, none⟩ = some (.int .i64 a0_4) := (blk_cell BK216.out 4).trans rfl
       have hfz12_0 := blk_frozen BK216.out 0
       have hfz12_1 := blk_frozen BK216.out 1
       have hfz12_2 := blk_frozen BK216.out 2
       have hfz12_3 := blk_frozen BK216.out 3
       have hfz12_4 := blk_frozen BK216.out 4
       have p7 : 0 ≤ (x8_1 : Int) := of_decide_eq_true (by first | (with_reducible assumption) | assumption)
       have q7 : x8_1 < (a0_3.size : Int) := of_decide_eq_true (by first | (with_reducible assumption) | assumption)
       have hx7 := bt_at a0_3 x8_1
       replace p7 := eq_true p7
       replace q7 := eq_true q7
       go_wp2_with (first | ((with_reducible refine gate_callee (f := 127) rfl ?_); refine goesL_ (some 15) rfl rfl Tryd.func127 (by kernel_rfl) rfl #[.int .u8 (bt a0_3 x8_1)] rfl goa_ ?_; (with_reducible refine (number_digit.calls (bt a0_3 x8_1) true _ A8.out).mono ?_); rintro e w' ⟨rfl, ⟨nd, rfl⟩⟩; refine ⟨_, rfl, ?_⟩; have p10 : 0 ≤ (x8_1 : Int) := of_decide_eq_true (by first | (with_reducible assumption) | assumption); have q10 : x8_1 < (a0_3.size : Int) := of_decide_eq_true (by first | (with_reducible assumption) | assumption); have hx10 := bt_at a0_3 x8_1; replace p10 := eq_true p10; replace q10 := eq_true q10))
       go_roundg k1
       case measure => have := HK1.out; omega
       case rel => exact ⟨(ji11), (wrap64 (x8_1 + 1)), (by first | rfl | (simp; done) | (simp only [← hji11] <;> (first | rfl | simp)) | (simp [*]; done)), rfs_, H', ⟨by have := HK1.out; omega⟩, ⟨blk_⟩, ⟨bel_⟩⟩
      ·replace c9 := Bool.eq_false_iff.mpr c9
       subst c9
       rw [if_neg (show ¬ (false = true) by decide)] at H
       have H' := Aside0.mk H
       clear H
       have hcz13_0 : wr.cell? ⟨gb216, 0, none⟩ = some (.bool a0_0) := (blk_cell BK216.out 0).trans rfl
       have hcz13_1 : wr.cell? ⟨gb216, 1, none⟩ = some (.string a0_1) := (blk_cell BK216.out 1).trans rfl
       have hcz13_2 : wr.cell? ⟨gb216, 2, none⟩ = some (.string a0_2) := (blk_cell BK216.out 2).trans rfl
       have hcz13_3 : wr.cell? ⟨gb216, 3, none⟩ = some (.string a0_3) := (blk_cell BK216.out 3).trans rfl
       have hcz13_4 : wr.cell? ⟨gb216, 4, none⟩ = some (.int .i64 a0_4) := (blk_cell BK216.out 4).trans rfl
       have hfz13_0 := blk_frozen BK216.out 0
       have hfz13_1 := blk_frozen BK216.out 1
       have hfz13_2 := blk_frozen BK216.out 2
       have hfz13_3 := blk_frozen BK216.out 3
       have hfz13_4 := blk_frozen BK216.out 4
       have p7 : 0 ≤ (x8_1 : Int) := of_decide_eq_true (by first | (with_reducible assumption) | assumption)
       have q7 : x8_1 < (a0_3.size : Int) := of_decide_eq_true (by first | (with_reducible assumption) | assumption)
       have hx7 := bt_at a0_3 x8_1
       replace p7 := eq_true p7
       replace q7 := eq_true q7
       go_wp2_with (first | ((with_reducible refine gate_callee (f := 127) rfl ?_); refine goesL_ (some 15) rfl rfl Tryd.func127 (by kernel_rfl) rfl #[.int .u8 (bt a0_3 x8_1)] rfl goa_ ?_; (with_reducible refine (number_digit.calls (bt a0_3 x8_1) false _ A8.out).mono ?_); rintro e w' ⟨rfl, ⟨nd, rfl⟩⟩; refine ⟨_, rfl, ?_⟩))
       go_roundg k1
       case measure => have := HK1.out; omega
       case rel => exact ⟨(x3_1), (wrap64 (x8_1 + 1)), rfs_, rfs_, H', ⟨by have := HK1.out; omega⟩, ⟨blk_⟩, ⟨bel_⟩⟩
     ·rw [if_neg c6] at H
      exact absurd H (by simp)
    ·rw [if_neg c5] at H
     exact absurd H (by simp)
   ·rw [if_neg c4] at H
    have c4b0 : decide (x8_1 < (a0_3.size : Int)) = false := decide_eq_false c4
    clear c4
    by_cases c14 : a0_3.toList = ([] : List UInt8)
    ·rw [if_pos c14] at H
     have c14b0 : (a0_3.toList == ([] : List UInt8)) = true := beq_iff_eq.mpr c14
     have c14b1 : (a0_3.toList != ([] : List UInt8)) = false := bne_eq_false_iff_eq.mpr c14
     clear c14
     obtain rfl := Option.some.inj H
     have hcz15_0 : wr.cell? ⟨gb216, 0, none⟩ = some (.bool a0_0) := (blk_cell BK216.out 0).trans rfl
     have hcz15_1 : wr.cell? ⟨gb216, 1, none⟩ = some (.string a0_1) := (blk_cell BK216.out 1).trans rfl
     have hcz15_2 : wr.cell? ⟨gb216, 2, none⟩ = some (.string a0_2) := (blk_cell BK216.out 2).trans rfl
     have hcz15_3 : wr.cell? ⟨gb216, 3, none⟩ = some (.string a0_3) := (blk_cell BK216.out 3).trans rfl
     have hcz15_4 : wr.cell? ⟨gb216, 4, none⟩ = some (.int .i64 a0_4) := (blk_cell BK216.out 4).trans rfl
     have hfz15_0 := blk_frozen BK216.out 0
     have hfz15_1 := blk_frozen BK216.out 1
     have hfz15_2 := blk_frozen BK216.out 2
     have hfz15_3 := blk_frozen BK216.out 3
     have hfz15_4 := blk_frozen BK216.out 4
     go_wp2
     go_ret
     exact ⟨rsl_, bel_⟩
    ·rw [if_neg c14] at H
     have c14b0 : (a0_3.toList == ([] : List UInt8)) = false := beq_eq_false_iff_ne.mpr c14
     have c14b1 : (a0_3.toList != ([] : List UInt8)) = true := bne_iff_ne.mpr c14
     by_cases c16 : 0 < (a0_3.size : Int)
     ·rw [if_pos c16] at H
      have c16b0 : decide (0 < (a0_3.size : Int)) = true := decide_eq_true c16
      have c16b1 : decide (0 < a0_3.size) = true := decide_eq_true (by omega)
      clear c16
      by_cases c18 : (bt a0_3 0) = 45
      ·rw [if_pos c18] at H
       have c18b0 : ((bt a0_3 0) == 45) = true := beq_iff_eq.mpr c18
       have c18b1 : ((bt a0_3 0) != 45) = false := bne_eq_false_iff_eq.mpr c18
       clear c18
       obtain rfl := Option.some.inj H
       have hcz19_0 : wr.cell? ⟨gb216, 0, none⟩ = some (.bool a0_0) := (blk_cell BK216.out 0).trans rfl
       have hcz19_1 : wr.cell? ⟨gb216, 1, none⟩ = some (.string a0_1) := (blk_cell BK216.out 1).trans rfl
       have hcz19_2 : wr.cell? ⟨gb216, 2, none⟩ = some (.string a0_2) := (blk_cell BK216.out 2).trans rfl
       have hcz19_3 : wr.cell? ⟨gb216, 3, none⟩ = some (.string a0_3) := (blk_cell BK216.out 3).trans rfl
       have hcz19_4 : wr.cell? ⟨gb216, 4, none⟩ = some (.int .i64 a0_4) := (blk_cell BK216.out 4).trans rfl
       have hfz19_0 := blk_frozen BK216.out 0
       have hfz19_1 := blk_frozen BK216.out 1
       have hfz19_2 := blk_frozen BK216.out 2
       have hfz19_3 := blk_frozen BK216.out 3
       have hfz19_4 := blk_frozen BK216.out 4
       have p17 : 0 ≤ (0 : Int) := (by omega)
       have q17 : 0 < a0_3.size := (by have : (0 : Int) < (a0_3.size : Int) := of_decide_eq_true (by first | (with_reducible assumption) | assumption); omega)
       have hx17 : ∀ h : 0 < a0_3.size, ((a0_3[0]'h).toNat : Int) = bt a0_3 0 := bt_at a0_3 0
       clear p17
       have qi17 : (0 < (a0_3.size : Int)) = True := eq_true (of_decide_eq_true (by first | (with_reducible assumption) | assumption))
       replace q17 := eq_true q17
       go_wp2
       go_ret
       exact ⟨rsl_, bel_⟩
      ·rw [if_neg c18] at H
       have c18b0 : ((bt a0_3 0) == 45) = false := beq_eq_false_iff_ne.mpr c18
       have c18b1 : ((bt a0_3 0) != 45) = true := bne_iff_ne.mpr c18
       obtain rfl := Option.some.inj H
       have hcz20_0 : wr.cell? ⟨gb216, 0, none⟩ = some (.bool a0_0) := (blk_cell BK216.out 0).trans rfl
       have hcz20_1 : wr.cell? ⟨gb216, 1, none⟩ = some (.string a0_1) := (blk_cell BK216.out 1).trans rfl
       have hcz20_2 : wr.cell? ⟨gb216, 2, none⟩ = some (.string a0_2) := (blk_cell BK216.out 2).trans rfl
       have hcz20_3 : wr.cell? ⟨gb216, 3, none⟩ = some (.string a0_3) := (blk_cell BK216.out 3).trans rfl
       have hcz20_4 : wr.cell? ⟨gb216, 4, none⟩ = some (.int .i64 a0_4) := (blk_cell BK216.out 4).trans rfl
       have hfz20_0 := blk_frozen BK216.out 0
       have hfz20_1 := blk_frozen BK216.out 1
       have hfz20_2 := blk_frozen BK216.out 2
       have hfz20_3 := blk_frozen BK216.out 3
       have hfz20_4 := blk_frozen BK216.out 4
       have p17 : 0 ≤ (0 : Int) := (by omega)
       have q17 : 0 < a0_3.size := (by have : (0 : Int) < (a0_3.size : Int) := of_decide_eq_true (by first | (with_reducible assumption) | assumption); omega)
       have hx17 : ∀ h : 0 < a0_3.size, ((a0_3[0]'h).toNat : Int) = bt a0_3 0 := bt_at a0_3 0
       clear p17
       have qi17 : (0 < (a0_3.size : Int)) = True := eq_true (of_decide_eq_true (by first | (with_reducible assumption) | assumption))
       replace q17 := eq_true q17
       go_wp2
       go_ret
       exact ⟨rsl_, bel_⟩
     ·rw [if_neg c16] at H
      exact absurd H (by simp)

end Go.Proofs.YtofdhdafabmhmaaDoor.PLa
end
section
namespace Go.Proofs.YtofdhdafabmhmaaDoor.PLa
open Go.RowKit Go.Proofs.YtofdhdafabmhmaaDoorW.PrintWords Go.Proofs.YtofdhdafabmhmaaDoorW.PrintLast Go.Proofs.YtofdhdafabmhmaaDoorW.PrintMore
attribute [local go_sem] max2_int min2_int max_two min_two max_three min_three max_four min_four
open Go.Proofs.YtofdhdafabmhmaaDoor.Opn Go.Proofs.YtofdhdafabmhmaaDoor.Giv

/-! ### number_Value: function 97 -/
def number_Value.dig (c : Int) : Int := (c - 48) % 256
def number_Value.at (s : ByteArray) (i j : Nat) : Int := if j < i then number_Value.dig (bt s j) else bt s j
def number_Value.digs (s : ByteArray) : List Int := (List.range s.size).map fun j => number_Value.dig (bt s (j : Nat))
def number_Value.f (k : Nat) (a0 : ByteArray) (a1 : Int) : Option (Int × Int) :=
  (number_isScale.f a1).bind fun b => if b = true then ((number_parts.f a0).bind fun t => if t.2.2.2.2 = 0 ∨ t.2.2.2.2 ≠ (a0.size : Int) ∨ 300 < (a0.size : Int) then some (0, 21) else
    (if t.2.1.size + t.2.2.1.size ≤ 140737488351232 then ((number_text_exponent.f k t.1 t.2.1 t.2.2.1 t.2.2.2.1 t.2.2.2.2).bind fun x => (number_scaled.f k (number_Value.digs (t.2.1 ++ t.2.2.1)) (wrap64 ((t.2.1.size : Int) + x)) a1).bind fun q =>
      if q.2 = true then (if t.1 = true then some (wrap64 (-q.1), 0) else some (q.1, 0)) else some (0, 10)) else none)) else some (0, 2)
theorem number_Value.mono : ∀ a0 a1 k, LeO (number_Value.f k a0 a1) (number_Value.f (k + 1) a0 a1) := by
  intro a0 a1 k
  unfold number_Value.f
  repeat' first
      | (with_reducible exact number_text_exponent.mono _ _ _ _ _ _)
      | (with_reducible exact number_scaled.mono _ _ _ _)
      | (with_reducible exact LeO.refl _)
      | (with_reducible exact LeO.none _)
      | (with_reducible refine LeO.ite ?_ ?_)
      | (with_reducible refine LeO.bind ?_ (fun _ => ?_))

/-- The parts' block, and the digits' block. -/
structure number_Value.Holds (w W : World) (gt gd : Nat) (c : Array Value) (s : ByteArray) (i : Nat) : Prop where
  b : Below w.heap.size w W
  ht : W.heap[gt]? = some (.cells c 133 (0, 0))
  lo : w.heap.size ≤ gt
  lt : gt < gd
  o : ∃ cs lo hi, W.heap[gd]? = some (.cells cs 5 (lo, hi)) ∧ (∀ j, j < s.size → cs[j]? = some (.int .u8 (number_Value.at s i j))) ∧ s.size ≤ lo
theorem number_Value.Holds.cell {w W : World} {gt gd : Nat} {c : Array Value} {s : ByteArray} {i : Nat} (h : number_Value.Holds w W gt gd c s i) {j : Nat} (hj : j < s.size) : W.cell? ⟨gd, j, none⟩ = some (.int .u8 (number_Value.at s i j)) := by
  obtain ⟨cs, lo, hi, h1, h2, h3⟩ := h.o
  rw [cell_of_row _ _ _ _ _ _ h1]
  exact h2 j hj
theorem number_Value.Holds.froz {w W : World} {gt gd : Nat} {c : Array Value} {s : ByteArray} {i : Nat} (h : number_Value.Holds w W gt gd c s i) {j : Nat} (hj : j < s.size) : W.frozen? ⟨gd, j, none⟩ = false := by
  obtain ⟨cs, lo, hi, h1, h2, h3⟩ := h.o
  have : ¬ lo ≤ j := by omega
  simp [World.frozen?, h1, this]
theorem number_Value.Holds.start {w W : World} {gt : Nat} {c : Array Value} (hb : Below w.heap.size w W) (ht : W.heap[gt]? = some (.cells c 133 (0, 0))) (hlo : w.heap.size ≤ gt) (s : ByteArray) : number_Value.Holds w (Lib.bytesWorld W 5 s) gt W.heap.size c s 0 := by
  refine ⟨bytes_below hb hb.size _ s, ?_, hlo, blk_lt ht, _, _, _, Lib.bytesWorld_at_new W _ s, fun j hj => ?_, ?_⟩
  · rw [Lib.bytesWorld_at_old W _ s gt (blk_lt ht)]
    exact ht
  · have h := Lib.bytesWorld_cell W 5 s j hj
    rw [cell_of_row _ _ _ _ _ _ (Lib.bytesWorld_at_new W _ s)] at h
    rw [h]
    have hb : number_Value.at s 0 j = bt s j := by simp [number_Value.at]
    rw [hb, ← bt_at s (j : Int) (by simpa using hj)]
    simp [List.getD_eq_getElem?_getD, hj]
    rfl
  · simp [Lib.bytesCells]
theorem number_Value.Holds.drewN {w W : World} {gt gd : Nat} {c : Array Value} {s : ByteArray} {i : Nat} (h : number_Value.Holds w W gt gd c s i) (n : Nat) : number_Value.Holds w (W.drewN n) gt gd c s i := ⟨number_parts.belowN h.b n, h.ht, h.lo, h.lt, h.o⟩
theorem number_Value.Holds.drew {w W : World} {gt gd : Nat} {c : Array Value} {s : ByteArray} {i : Nat} (h : number_Value.Holds w W gt gd c s i) : number_Value.Holds w W.drew gt gd c s i := ⟨below_drew1 h.b, blk_drew h.ht, h.lo, h.lt, h.o⟩
theorem number_Value.Holds.set {w W : World} {gt gd : Nat} {c : Array Value} {s : ByteArray} {i : Nat} (h : number_Value.Holds w W gt gd c s i) (v : Int) (hv : v = number_Value.dig (bt s (i : Nat))) : number_Value.Holds w (W.setCell ⟨gd, i, none⟩ (.int .u8 v)) gt gd c s (i + 1) := by
  obtain ⟨cs, lo, hi, h1, h2, h3⟩ := h.o
  refine ⟨below_set h.b (Nat.le_trans h.lo (Nat.le_of_lt h.lt)), blk_far h.ht (show gt ≠ gd from Nat.ne_of_lt h.lt) _, h.lo, h.lt, cs.setIfInBounds i (.int .u8 v), lo, hi, ?_, fun j hj => ?_, h3⟩
  · simp [World.setCell, Array.getElem?_modify, h1]
  · unfold number_Value.at
    rcases Nat.lt_trichotomy j i with h4 | rfl | h4
    · rw [Array.getElem?_setIfInBounds_ne (by omega), h2 j hj, if_pos (by omega)]
      unfold number_Value.at
      rw [if_pos h4]
    · have hs : j < cs.size := (Array.getElem?_eq_some_iff.1 (h2 j hj)).1
      rw [Array.getElem?_setIfInBounds_self_of_lt hs, if_pos (by omega), hv]
    · rw [Array.getElem?_setIfInBounds_ne (by omega), h2 j hj, if_neg (by omega)]
      unfold number_Value.at
      rw [if_neg (by omega)]
theorem number_Value.Holds.call {w W W' : World} {gt gd : Nat} {c : Array Value} {s : ByteArray} {i : Nat} (h : number_Value.Holds w W gt gd c s i) (hb : Below W.heap.size W W') : number_Value.Holds w W' gt gd c s i := by
  obtain ⟨cs, lo, hi, h1, h2, h3⟩ := h.o
  exact ⟨below_step h.b hb, blk_below h.ht hb, h.lo, h.lt, cs, lo, hi, blk_below h1 hb, h2, h3⟩
/-- What the digits' block says, wherever it lies as it lay. -/
theorem number_Value.Holds.row {w W : World} {gt gd : Nat} {c : Array Value} {s : ByteArray} (h : number_Value.Holds w W gt gd c s s.size) (hs : s.size ≤ 140737488351232) (cap base : Nat) (hc : s.size ≤ cap) : Kd.V (Kd.int .u8) 5 W base (fun k => k = gd) (.slice (some ⟨gd, 0, none⟩) (number_Value.digs s).length cap) (number_Value.digs s) := by
  have hl : (number_Value.digs s).length = s.size := by simp [number_Value.digs]
  refine Kd.V_mk (by omega) fun W' hW => ⟨rfl, by omega, fun _ => ⟨_, rfl, fun j p hp => ?_⟩⟩
  have hj : j < s.size := by
    have := (List.getElem?_eq_some_iff.1 hp).1
    omega
  have hcell := h.cell hj
  have hlt : gd < W.heap.size := World.block_lt_of_cell? W _ hcell
  have hcell' : W'.cell? ⟨gd, j, none⟩ = some (.int .u8 (number_Value.at s s.size j)) := by
    rw [← hcell]
    simp [World.cell?, hW gd rfl hlt]
  have hp2 : p = number_Value.at s s.size j := by
    unfold number_Value.digs at hp
    rw [List.getElem?_map, List.getElem?_range hj] at hp
    unfold number_Value.at
    rw [if_pos hj]
    exact (Option.some.inj hp).symm
  refine ⟨[.int .u8 p], rfl, rfl, fun i u hu => ?_⟩
  match i, hu with
  | 0, hu =>
    obtain rfl := Option.some.inj hu
    have : (j * (Kd.int .u8).sz + 0) = j := by show j * 1 + 0 = j; omega
    rw [this, add_plain, hcell', hp2]
theorem number_Value.next {i n : Nat} (h1 : i < n) (hs : n ≤ 140737488351232) : wrap64 ((i : Int) + 1) = ((i + 1 : Nat) : Int) := by
  unfold wrap64
  omega
theorem number_Value.less {i n : Nat} (h1 : i < n) (hw : wrap64 ((i : Int) + 1) = ((i + 1 : Nat) : Int)) : n - (intOf (.int .i64 (wrap64 ((i : Int) + 1)))).toNat < n - (intOf (.int .i64 (i : Int))).toNat := by
  rw [hw]
  show n - (((i + 1 : Nat) : Int)).toNat < n - ((i : Int)).toNat
  rw [Int.toNat_natCast, Int.toNat_natCast]
  clear hw
  omega

def number_Value.T12 : Bool × List (List Nat × List Nat) := (true,
  [([], []), ([], []), ([1], [1]), ([2], [2]), ([], []), ([4], [4]), ([3, 5], [3, 5]), ([], []),
    ([0, 6, 7, 5], [0, 6, 7]), ([8], [8]), ([9], [9]), ([9], [9]), ([10, 8, 0, 1, 2, 3, 4, 5, 6, 7, 8, 9, 10], [10]),
    ([11, 12, 0, 1, 2, 3, 4, 5, 6, 7, 8, 9, 10, 11, 12], [11])])
def number_Value.B12 : List Nat := [0, 0, 2, 6, 0, 16, 62, 0, 255, 511, 1023, 1023, 2047, 8191]
theorem number_Value.tab12 : rtab .any (opsOf Tryd.f97 12) = number_Value.T12 := by kernel_rfl
theorem number_Value.bits12 : waitsOk number_Value.T12.2 number_Value.B12 = true := by kernel_rfl

set_option maxHeartbeats 40000000 in
set_option maxRecDepth 100000 in
theorem number_Value.walk (k : Nat) (a0 : ByteArray) (a1 : Int) (t1 : Bool) (t2 t3 t4 : ByteArray) (t5 : Int) (x q1 : Int) (q2 : Bool) (w : World) (hsc : number_isScale.f a1 = some true) (hp : number_parts.f a0 = some (t1, t2, t3, t4, t5))
    (h5 : t5 ≠ 0) (h6 : t5 = (a0.size : Int)) (h7 : (a0.size : Int) ≤ 300) (hz : t2.size + t3.size ≤ 140737488351232) (hx : number_text_exponent.f k t1 t2 t3 t4 t5 = some x)
    (hq : number_scaled.f k (number_Value.digs (t2 ++ t3)) (wrap64 ((t2.size : Int) + x)) a1 = some (q1, q2)) :
    Calls Tryd.prog 97 #[.string a0, .int .i64 a1] w fun e w' => e = .returned (.tuple (if q2 = true then (if t1 = true then #[.int .i64 (wrap64 (-q1)), .int .i64 0] else #[.int .i64 q1, .int .i64 0]) else #[.int .i64 0, .int .i64 10])) ∧ Below w.heap.size w w' := by
  have hu := Tryd.underlying133
  have HSC := Aside0.mk hsc
  have HPT := Aside0.mk hp
  have HX := Aside0.mk hx
  have HQ := Aside0.mk hq
  have HZ := Aside0.mk hz
  obtain ⟨sd, hsd⟩ : ∃ sd, t2 ++ t3 = sd := ⟨_, rfl⟩
  have HSZ : Aside0 (sd.size ≤ 140737488351232) := ⟨by rw [← hsd, ByteArray.size_append]; exact hz⟩
  have HSD := Aside0.mk hsd
  have HB := Aside0.mk (Below.refl w.heap.size w)
  have e1 : (t5 == 0) = false := beq_eq_false_iff_ne.2 h5
  have e2 : (t5 != (a0.size : Int)) = false := by rw [h6]; simp
  have e3 : decide (300 < (a0.size : Int)) = false := decide_eq_false (by omega)
  have e4 : decide ((a0.size : Int) > 300) = false := decide_eq_false (by omega)
  have e5 : (9223372036854775807 < t2.size + t3.size) = False := eq_false (by omega)
  have e6 : (t2.size + t3.size ≤ 9223372036854775807) = True := eq_true (by omega)
  have kb := fun W s => print_bytes (P := Tryd.prog) 9 63 5 Tryd.underlying9 Tryd.underlying63 Tryd.underlying5 s W
  clear hsc hp hx hq hz h5 h6 h7
  go_enter Tryd.func97, Tryd.ntmps97
  go_upto_region 6 with (first
    | (go_at_call 118; refine (number_isScale.calls _ _ _ HSC.out).mono ?_; rintro e w1 ⟨rfl, ⟨n1, rfl⟩⟩)
    | (go_at_call 106; refine (number_parts.calls _ _ _ _ _ _ _ HPT.out).mono ?_; rintro e w2 ⟨rfl, hb⟩; have HB2 := Aside0.mk hb; clear hb)
    | ((with_reducible refine gate_dst (N := 6) rfl ?_); (try (refine gate_guard (by rfl) ?_; dsimp only)); refine box_event ?hg (N := 6) ?hd (cs := #[.bool false, .string (⟨#[]⟩ : ByteArray), .string (⟨#[]⟩ : ByteArray), .string (⟨#[]⟩ : ByteArray), .int .i64 0]) (t := 133) ?hr ?_; (case hd => rfl); (case hg => rfl); (case hr => first | (go_simp; done) | (go_simp; rfl)); intro gt hg w3 hbox hb; have KB := Aside0.mk hb; have KS := Aside0.mk hbox; have KG := Aside0.mk hg; clear hg hbox hb; have hct0 : w3.cell? ⟨gt, 0, none⟩ = some (.bool false) := (blk_cell KS.out 0).trans rfl; have hct1 : w3.cell? ⟨gt, 1, none⟩ = some (.string (⟨#[]⟩ : ByteArray)) := (blk_cell KS.out 1).trans rfl; have hct2 : w3.cell? ⟨gt, 2, none⟩ = some (.string (⟨#[]⟩ : ByteArray)) := (blk_cell KS.out 2).trans rfl; have hct3 : w3.cell? ⟨gt, 3, none⟩ = some (.string (⟨#[]⟩ : ByteArray)) := (blk_cell KS.out 3).trans rfl; have hct4 : w3.cell? ⟨gt, 4, none⟩ = some (.int .i64 0) := (blk_cell KS.out 4).trans rfl; have hf0 := blk_frozen KS.out 0; have hf1 := blk_frozen KS.out 1; have hf2 := blk_frozen KS.out 2; have hf3 := blk_frozen KS.out 3; have hf4 := blk_frozen KS.out 4))
  go_wp2
  go_loopw [39] (fun v39 wr => ∃ (i : Nat), i ≤ sd.size ∧ v39 = .int .i64 i ∧ Aside0 (number_Value.Holds w wr gt w3.heap.size #[.bool t1, .string t2, .string t3, .string t4, .int .i64 t5] sd i)) (fun v39 _ => sd.size - (intOf v39).toNat)
  case atStart =>
    have hb3 : Below w.heap.size w w3 := below_step (below_step (number_parts.belowN (Below.refl _ _) n1) HB2.out) KB.out
    have hlo : w.heap.size ≤ gt := by
      rw [KG.out]
      exact (below_step (number_parts.belowN (Below.refl _ _) n1) HB2.out).size
    have e : ∀ (W : World) (p : Addr) (u : Value), (W.setCell p u).heap.size = W.heap.size := fun W p u => by simp [World.setCell]
    have h := number_Value.Holds.start (c := #[.bool t1, .string t2, .string t3, .string t4, .int .i64 t5]) (gt := gt) (below_set (below_set (below_set (below_set (below_set hb3 hlo) hlo) hlo) hlo) hlo) (blk_put (blk_put (blk_put (blk_put (blk_put KS.out 0 (.bool t1) rfl) 1 (.string t2) rfl) 2 (.string t3) rfl) 3 (.string t4) rfl) 4 (.int .i64 t5) rfl) hlo sd
    rw [e, e, e, e, e] at h
    exact ⟨0, Nat.zero_le _, rfl, ⟨h⟩⟩
  case round =>
    clear kb
    obtain ⟨i, hi, rfl, HH⟩ := hrel
    by_cases hlt : i < sd.size
    · have q0 : (0 ≤ (i : Int)) = True := eq_true (by omega)
      have q1 : ((i : Int) < (sd.size : Int)) = True := eq_true (by omega)
      have q2 : decide ((i : Int) < (sd.size : Int)) = true := decide_eq_true (by omega)
      have q3 : decide (i < sd.size) = true := decide_eq_true hlt
      have q4 : (i < sd.size) = True := eq_true hlt
      have hx : wr.cell? ⟨w3.heap.size, i, none⟩ = some (.int .u8 (bt sd (i : Nat))) := by
        rw [HH.out.cell hlt]
        simp [number_Value.at]
      have hz := HH.out.froz hlt
      have H1 := Aside0.mk hlt
      have HW := Aside0.mk (number_Value.next hlt HSZ.out)
      have hA := add_plain w3.heap.size i
      clear hlt hi
      go_wp2
      go_roundw
      case rel => exact ⟨i + 1, H1.out, by rw [HW.out], ⟨HH.out.set _ rfl⟩⟩
      case measure => exact number_Value.less H1.out HW.out
    · have hie : i = sd.size := by omega
      subst hie
      have z2 : decide ((sd.size : Int) < (sd.size : Int)) = false := decide_eq_false (by omega)
      have z3 : decide (sd.size < sd.size) = false := decide_eq_false (by omega)
      have hT := HH.out.ht
      have hct0 : wr.cell? ⟨gt, 0, none⟩ = some (.bool t1) := (blk_cell hT 0).trans rfl
      have hf0 := blk_frozen hT 0
      have hct1 : wr.cell? ⟨gt, 1, none⟩ = some (.string t2) := (blk_cell hT 1).trans rfl
      have hf1 := blk_frozen hT 1
      have hct2 : wr.cell? ⟨gt, 2, none⟩ = some (.string t3) := (blk_cell hT 2).trans rfl
      have hf2 := blk_frozen hT 2
      have hct3 : wr.cell? ⟨gt, 3, none⟩ = some (.string t4) := (blk_cell hT 3).trans rfl
      have hf3 := blk_frozen hT 3
      have hct4 : wr.cell? ⟨gt, 4, none⟩ = some (.int .i64 t5) := (blk_cell hT 4).trans rfl
      have hf4 := blk_frozen hT 4
      have hdl : (number_Value.digs sd).length = sd.size := by simp [number_Value.digs]
      have KS2 : ∀ (W : World) (cap : Nat), Kd.V (Kd.int .u8) 5 W W.heap.size (fun k_ => k_ = w3.heap.size) (.slice (some ⟨w3.heap.size, 0, none⟩) (number_Value.digs sd).length cap) (number_Value.digs sd) → Calls Tryd.prog 119 #[.slice (some ⟨w3.heap.size, 0, none⟩) sd.size cap, .int .i64 (wrap64 ((t2.size : Int) + x)), .int .i64 a1] W fun e w' => e = .returned (.tuple #[.int .i64 q1, .bool q2]) ∧ Below W.heap.size W w' := fun W cap hv => by
        have h := number_scaled.calls k _ _ cap (number_Value.digs sd) (wrap64 ((t2.size : Int) + x)) a1 q1 q2 W hv (HSD.out ▸ HQ.out)
        rw [hdl] at h
        exact h
      have KS3 := Aside0.mk KS2
      clear hlt KS2
      go_wp2
      have HH4 := Aside0.mk (number_Value.Holds.drew HH.out)
      refine start_ (n := 14) (S := (fun w' => w'.cell? ⟨gt, 0, none⟩ = some (.bool t1) ∧ w'.cell? ⟨gt, 1, none⟩ = some (.string t2) ∧ w'.cell? ⟨gt, 2, none⟩ = some (.string t3) ∧ w'.cell? ⟨gt, 3, none⟩ = some (.string t4) ∧ w'.cell? ⟨gt, 4, none⟩ = some (.int .i64 t5))) (ds := []) #[false, false, false, false, false, false, false, false, false, false, false, false, false, false] (by kernel_rfl) rfl rfl ⟨(blk_cell HH4.out.ht 0).trans rfl, (blk_cell HH4.out.ht 1).trans rfl, (blk_cell HH4.out.ht 2).trans rfl, (blk_cell HH4.out.ht 3).trans rfl, (blk_cell HH4.out.ht 4).trans rfl⟩ (fun hHeld => ?_)
      refine with_tabW number_Value.tab12 number_Value.bits12 (fun HT_ HW_ => ?_)
      generalize wr.drew = w4 at HH4 hHeld ⊢
      refine pus_ 0 (some 50) #[true, false, false, false, false, false, false, false, false, false, false, false, false, false] rfl rfl HT_.out ?_
      refine pus_ 1 (some 51) #[true, true, false, false, false, false, false, false, false, false, false, false, false, false] rfl rfl HT_.out ?_
      refine tas_ 2 (some 52) #[true, true, true, false, false, false, false, false, false, false, false, false, false, false] rfl rfl HT_.out HW_.out hHeld ?_
      refine pus_ 3 (some 53) #[true, true, true, true, false, false, false, false, false, false, false, false, false, false] rfl rfl HT_.out ?_
      refine tas_ 4 (some 54) #[true, true, true, true, true, false, false, false, false, false, false, false, false, false] rfl rfl HT_.out HW_.out hHeld ?_
      refine pus_ 7 (some 57) #[true, true, true, true, true, false, false, true, false, false, false, false, false, false] rfl rfl HT_.out ?_
      refine one_ (i := 5) (N := some 55) #[true, true, true, true, true, true, false, true, false, false, false, false, false, false] rfl rfl (one_of HT_.out (by kernel_rfl)) (by decide) (fun K hK => ?_)
      refine goes_ Tryd.func120 (by kernel_rfl) rfl #[.agg #[.bool t1, .string t2, .string t3, .string t4, .int .i64 t5]] (by rfl) rfl rfl goa_ ?_
      with_reducible refine (number_text_exponent.calls k t1 t2 t3 t4 t5 x _ HX.out).mono ?_
      rintro e w5 ⟨rfl, hb⟩
      refine ⟨_, rfl, ?_⟩
      have HH5 := Aside0.mk (number_Value.Holds.call HH4.out hb)
      clear hb
      refine hK.out _ _ ⟨(blk_cell HH5.out.ht 0).trans rfl, (blk_cell HH5.out.ht 1).trans rfl, (blk_cell HH5.out.ht 2).trans rfl, (blk_cell HH5.out.ht 3).trans rfl, (blk_cell HH5.out.ht 4).trans rfl⟩ (fun hHeld => ?_)
      clear hK K
      refine norm_ (a' := ?_) ?_ ?_
      rotate_left
      ·show Act.put _ (some 55) _ = _
       simp only [Act.put, List.setIfInBounds_toArray, List.set_cons_zero, List.set_cons_succ, i64_w, i32_w]
       rfl
      refine pus_ 6 (some 56) #[true, true, true, true, true, true, true, true, false, false, false, false, false, false] rfl rfl HT_.out ?_
      refine one_ (i := 8) (N := some 58) #[true, true, true, true, true, true, true, true, true, false, false, false, false, false] rfl rfl (one_of HT_.out (by kernel_rfl)) (by decide) (fun K hK => ?_)
      refine goes_ Tryd.func119 (by kernel_rfl) rfl #[.slice (some ⟨w3.heap.size, 0, none⟩) sd.size (grownCap (((((w3.setCell { block := gt, off := 0 } (Value.bool t1)).setCell { block := gt, off := 1 } (Value.string t2)).setCell { block := gt, off := 2 } (Value.string t3)).setCell { block := gt, off := 3 } (Value.string t4)).setCell { block := gt, off := 4 } (Value.int IntKind.i64 t5)) sd.size 0 5), .int .i64 (wrap64 ((t2.size : Int) + x)), .int .i64 a1] (by rfl) rfl rfl goa_ ?_
      with_reducible refine (KS3.out _ _ ?sv).mono ?_
      case sv => exact number_Value.Holds.row HH5.out HSZ.out _ _ (grownCap_ge _ _ _ _)
      rintro e w6 ⟨rfl, hb⟩
      refine ⟨_, rfl, ?_⟩
      have HH6 := Aside0.mk (number_Value.Holds.call HH5.out hb)
      clear hb
      refine hK.out _ _ ⟨(blk_cell HH6.out.ht 0).trans rfl, (blk_cell HH6.out.ht 1).trans rfl, (blk_cell HH6.out.ht 2).trans rfl, (blk_cell HH6.out.ht 3).trans rfl, (blk_cell HH6.out.ht 4).trans rfl⟩ (fun hHeld => ?_)
      clear hK K
      refine norm_ (a' := ?_) ?_ ?_
      rotate_left
      ·show Act.put _ (some 58) _ = _
       simp only [Act.put, List.setIfInBounds_toArray, List.set_cons_zero, List.set_cons_succ, i64_w, i32_w]
       rfl
      refine pus_ 9 (some 49) #[true, true, true, true, true, true, true, true, true, true, false, false, false, false] rfl rfl HT_.out ?_
      refine pus_ 10 (some 59) #[true, true, true, true, true, true, true, true, true, true, true, false, false, false] rfl rfl HT_.out ?_
      refine pus_ 11 (some 60) #[true, true, true, true, true, true, true, true, true, true, true, true, false, false] rfl rfl HT_.out ?_
      refine pus_ 12 (some 9) #[true, true, true, true, true, true, true, true, true, true, true, true, true, false] rfl rfl HT_.out ?_
      refine pus_ 13 (some 10) #[true, true, true, true, true, true, true, true, true, true, true, true, true, true] rfl rfl HT_.out ?_
      refine done_ (done_of HT_.out (by kernel_rfl)) ?_
      clear hct0 hct1 hct2 hct3 hct4 hf0 hf1 hf2 hf3 hf4
      have hT6 := HH6.out.ht
      have hct0 : w6.cell? ⟨gt, 0, none⟩ = some (.bool t1) := (blk_cell hT6 0).trans rfl
      have hf0 := blk_frozen hT6 0
      have HB6 := Aside0.mk HH6.out.b
      cases q2
      · go_wp2
        go_ret2
        exact ⟨rfl, HB6.out⟩
      · cases t1
        · go_wp2
          go_ret2
          exact ⟨rfl, HB6.out⟩
        · go_wp2
          go_ret2
          exact ⟨rfl, HB6.out⟩

set_option maxHeartbeats 4000000 in
set_option maxRecDepth 100000 in
theorem number_Value.nonum (a0 : ByteArray) (a1 : Int) (t1 : Bool) (t2 t3 t4 : ByteArray) (t5 : Int) (w : World) (hsc : number_isScale.f a1 = some true) (hp : number_parts.f a0 = some (t1, t2, t3, t4, t5))
    (hc : t5 = 0 ∨ t5 ≠ (a0.size : Int) ∨ 300 < (a0.size : Int)) :
    Calls Tryd.prog 97 #[.string a0, .int .i64 a1] w fun e w' => e = .returned (.tuple #[.int .i64 0, .int .i64 21]) ∧ Below w.heap.size w w' := by
  have hu := Tryd.underlying133
  have HSC := Aside0.mk hsc
  have HPT := Aside0.mk hp
  obtain ⟨b1, hb1⟩ : ∃ b, (t5 == 0) = b := ⟨_, rfl⟩
  obtain ⟨b2, hb2⟩ : ∃ b, (t5 != (a0.size : Int)) = b := ⟨_, rfl⟩
  obtain ⟨b3, hb3⟩ : ∃ b, decide (300 < (a0.size : Int)) = b := ⟨_, rfl⟩
  have hb4 : decide ((a0.size : Int) > 300) = b3 := hb3
  have HC : (b1 = true) ∨ (b1 = false ∧ b2 = true) ∨ (b1 = false ∧ b2 = false ∧ b3 = true) := by
    cases b1
    · cases b2
      · cases b3
        · exfalso
          simp at hb1 hb2 hb3
          omega
        · exact Or.inr (Or.inr ⟨rfl, rfl, rfl⟩)
      · exact Or.inr (Or.inl ⟨rfl, rfl⟩)
    · exact Or.inl rfl
  clear hsc hp hc
  rcases HC with rfl | ⟨rfl, rfl⟩ | ⟨rfl, rfl, rfl⟩
  all_goals
    go_enter Tryd.func97, Tryd.ntmps97
    go_wp2_with (first
      | (go_at_call 118; refine (number_isScale.calls _ _ _ HSC.out).mono ?_; rintro e w1 ⟨rfl, ⟨n1, rfl⟩⟩)
      | (go_at_call 106; refine (number_parts.calls _ _ _ _ _ _ _ HPT.out).mono ?_; rintro e w2 ⟨rfl, hb⟩; have HB2 := Aside0.mk hb; clear hb)
      | ((with_reducible refine gate_dst (N := 6) rfl ?_); (try (refine gate_guard (by rfl) ?_; dsimp only)); refine box_event ?hg (N := 6) ?hd (cs := #[.bool false, .string (⟨#[]⟩ : ByteArray), .string (⟨#[]⟩ : ByteArray), .string (⟨#[]⟩ : ByteArray), .int .i64 0]) (t := 133) ?hr ?_; (case hd => rfl); (case hg => rfl); (case hr => first | (go_simp; done) | (go_simp; rfl)); intro gt hg w3 hbox hb; have KB := Aside0.mk hb; have KS := Aside0.mk hbox; have KG := Aside0.mk hg; clear hg hbox hb; have hct0 : w3.cell? ⟨gt, 0, none⟩ = some (.bool false) := (blk_cell KS.out 0).trans rfl; have hct1 : w3.cell? ⟨gt, 1, none⟩ = some (.string (⟨#[]⟩ : ByteArray)) := (blk_cell KS.out 1).trans rfl; have hct2 : w3.cell? ⟨gt, 2, none⟩ = some (.string (⟨#[]⟩ : ByteArray)) := (blk_cell KS.out 2).trans rfl; have hct3 : w3.cell? ⟨gt, 3, none⟩ = some (.string (⟨#[]⟩ : ByteArray)) := (blk_cell KS.out 3).trans rfl; have hct4 : w3.cell? ⟨gt, 4, none⟩ = some (.int .i64 0) := (blk_cell KS.out 4).trans rfl; have hf0 := blk_frozen KS.out 0; have hf1 := blk_frozen KS.out 1; have hf2 := blk_frozen KS.out 2; have hf3 := blk_frozen KS.out 3; have hf4 := blk_frozen KS.out 4))
    have hb3 : Below w.heap.size w w3 := below_step (below_step (number_parts.belowN (Below.refl _ _) n1) HB2.out) KB.out
    have hlo : w.heap.size ≤ gt := by
      rw [KG.out]
      exact (below_step (number_parts.belowN (Below.refl _ _) n1) HB2.out).size
    have HB3 := Aside0.mk hb3
    have HL := Aside0.mk hlo
    clear hb3 hlo
    go_ret2
    exact ⟨rfl, below_set (below_set (below_set (below_set (below_set HB3.out HL.out) HL.out) HL.out) HL.out) HL.out⟩

set_option maxHeartbeats 4000000 in
set_option maxRecDepth 100000 in
theorem number_Value.calls (k : Nat) (a0 : ByteArray) (a1 r1 r2 : Int) (w : World) (h : number_Value.f k a0 a1 = some (r1, r2)) :
    Calls Tryd.prog 97 #[.string a0, .int .i64 a1] w fun e w' => e = .returned (.tuple #[.int .i64 r1, .int .i64 r2]) ∧ Below w.heap.size w w' := by
  unfold number_Value.f at h
  obtain ⟨b, hsc, h⟩ := Option.bind_eq_some_iff.mp h
  cases b
  · rw [if_neg (by decide)] at h
    obtain ⟨rfl, rfl⟩ := Prod.mk.inj (Option.some.inj h)
    have HSC := Aside0.mk hsc
    clear hsc h
    have hu := Tryd.underlying133
    go_enter Tryd.func97, Tryd.ntmps97
    go_wp2_with (first | (go_at_call 118; refine (number_isScale.calls _ _ _ HSC.out).mono ?_; rintro e w1 ⟨rfl, ⟨n1, rfl⟩⟩))
    go_ret2
    exact ⟨rfl, by repeat (first | exact Below.refl _ _ | apply number_parts.belowN)⟩
  · rw [if_pos rfl] at h
    obtain ⟨⟨t1, t2, t3, t4, t5⟩, hp, h⟩ := Option.bind_eq_some_iff.mp h
    dsimp only at h
    by_cases hc : t5 = 0 ∨ t5 ≠ (a0.size : Int) ∨ 300 < (a0.size : Int)
    · rw [if_pos hc] at h
      obtain ⟨rfl, rfl⟩ := Prod.mk.inj (Option.some.inj h)
      exact number_Value.nonum a0 a1 t1 t2 t3 t4 t5 w hsc hp hc
    · rw [if_neg hc] at h
      by_cases hz : t2.size + t3.size ≤ 140737488351232
      · rw [if_pos hz] at h
        obtain ⟨x, hx, h⟩ := Option.bind_eq_some_iff.mp h
        obtain ⟨⟨q1, q2⟩, hq, h⟩ := Option.bind_eq_some_iff.mp h
        have h5 : t5 ≠ 0 := fun e => hc (Or.inl e)
        have h6 : t5 = (a0.size : Int) := by
          by_cases e : t5 = (a0.size : Int)
          · exact e
          · exact absurd (Or.inr (Or.inl e)) hc
        have h7 : (a0.size : Int) ≤ 300 := by
          by_cases e : 300 < (a0.size : Int)
          · exact absurd (Or.inr (Or.inr e)) hc
          · omega
        refine (number_Value.walk k a0 a1 t1 t2 t3 t4 t5 x q1 q2 w hsc hp h5 h6 h7 hz hx hq).mono ?_
        rintro e w' ⟨rfl, hb⟩
        refine ⟨?_, hb⟩
        cases q2 <;> cases t1 <;> simp only [if_pos, if_neg, Bool.false_eq_true, if_false, if_true] at h ⊢ <;> (obtain ⟨rfl, rfl⟩ := Prod.mk.inj (Option.some.inj h); rfl)
      · rw [if_neg hz] at h
        cases h

end Go.Proofs.YtofdhdafabmhmaaDoor.PLa
end
section
namespace Go.Proofs.YtofdhdafabmhmaaDoor.PLa
open Go.RowKit Go.Proofs.YtofdhdafabmhmaaDoorW.PrintWords Go.Proofs.YtofdhdafabmhmaaDoorW.PrintLast Go.Proofs.YtofdhdafabmhmaaDoorW.PrintMore
attribute [local go_sem] max2_int min2_int max_two min_two max_three min_three max_four min_four
open Go.Proofs.YtofdhdafabmhmaaDoor.Opn Go.Proofs.YtofdhdafabmhmaaDoor.Giv

/-! ### value_scaled: function 77 -/
def value_scaled.f (k : Nat) (a0 : ByteArray) (a1 : Int) : Option (Int × Int) := (number_Value.f k a0 a1).bind fun bt218 => (if bt218.2 = 0 then (some (bt218.1, bt218.2)) else (if bt218.2 = 10 then (some (bt218.1, bt218.2)) else (some (bt218.1, 50))))
theorem value_scaled.mono : ∀ a0 a1 k, LeO (value_scaled.f k a0 a1) (value_scaled.f (k + 1) a0 a1) := by
 intro a0 a1 k
 unfold value_scaled.f
 repeat' first
   | (with_reducible exact number_Value.mono _ _ _)
   | (with_reducible exact LeO.refl _)
   | (with_reducible exact LeO.none _)
   | (with_reducible refine LeO.ite ?_ ?_)
   | (with_reducible refine LeO.bind ?_ (fun _ => ?_))
set_option maxHeartbeats 8000000 in
set_option maxRecDepth 100000 in
theorem value_scaled.calls (k : Nat) (a0 : ByteArray) (a1 : Int) (r1 : Int) (r2 : Int) (w : World) (h : value_scaled.f k a0 a1 = some (r1, r2)) :
  Calls Tryd.prog 77 #[.string a0, .int .i64 a1] w fun e w' => e = .returned (.tuple #[.int .i64 r1, .int .i64 r2]) ∧ Below w.heap.size w w' := by
 have HB := Aside0.mk (Below.refl w.heap.size w)
 have H : ((number_Value.f k a0 a1).bind fun bt218 => (if bt218.2 = 0 then (some (bt218.1, bt218.2)) else (if bt218.2 = 10 then (some (bt218.1, bt218.2)) else (some (bt218.1, 50))))) = some (r1, r2) := h
 clear h
 replace H := Option.bind_eq_some_iff.mp H
 obtain ⟨⟨t218, t219⟩, A30, H⟩ := H
 try dsimp only at H
 have A3 := Aside0.mk A30
 clear A30
 by_cases c4 : t219 = 0
 ·rw [if_pos c4] at H
  have c4b0 : (t219 == 0) = true := beq_iff_eq.mpr c4
  have c4b1 : (t219 != 0) = false := bne_eq_false_iff_eq.mpr c4
  clear c4
  simp only [Option.some.injEq, Prod.mk.injEq] at H
  obtain ⟨rfl, rfl⟩ := H
  go_enter Tryd.func77, Tryd.ntmps77
  go_wp2_with (first | ((with_reducible refine gate_callee (f := 97) rfl ?_); refine goesL_ (some 11) rfl rfl Tryd.func97 (by kernel_rfl) rfl #[.string a0, .int .i64 a1] rfl goa_ ?_; (with_reducible refine (number_Value.calls k a0 a1 t218 t219 _ A3.out).mono ?_); rintro e w5 ⟨rfl, hb⟩; refine ⟨_, rfl, ?_⟩; have n0_ := Aside0.mk (below_step bel_ hb); clear HB; have HB := n0_; clear n0_; clear hb))
  go_ret2
  exact ⟨rsl_, bel_⟩
 ·rw [if_neg c4] at H
  have c4b0 : (t219 == 0) = false := beq_eq_false_iff_ne.mpr c4
  have c4b1 : (t219 != 0) = true := bne_iff_ne.mpr c4
  by_cases c6 : t219 = 10
  ·rw [if_pos c6] at H
   have c6b0 : (t219 == 10) = true := beq_iff_eq.mpr c6
   have c6b1 : (t219 != 10) = false := bne_eq_false_iff_eq.mpr c6
   clear c6
   simp only [Option.some.injEq, Prod.mk.injEq] at H
   obtain ⟨rfl, rfl⟩ := H
   go_enter Tryd.func77, Tryd.ntmps77
   go_wp2_with (first | ((with_reducible refine gate_callee (f := 97) rfl ?_); refine goesL_ (some 11) rfl rfl Tryd.func97 (by kernel_rfl) rfl #[.string a0, .int .i64 a1] rfl goa_ ?_; (with_reducible refine (number_Value.calls k a0 a1 t218 t219 _ A3.out).mono ?_); rintro e w7 ⟨rfl, hb⟩; refine ⟨_, rfl, ?_⟩; have n0_ := Aside0.mk (below_step bel_ hb); clear HB; have HB := n0_; clear n0_; clear hb))
   go_ret2
   exact ⟨rsl_, bel_⟩
  ·rw [if_neg c6] at H
   have c6b0 : (t219 == 10) = false := beq_eq_false_iff_ne.mpr c6
   have c6b1 : (t219 != 10) = true := bne_iff_ne.mpr c6
   simp only [Option.some.injEq, Prod.mk.injEq] at H
   obtain ⟨rfl, rfl⟩ := H
   go_enter Tryd.func77, Tryd.ntmps77
   go_wp2_with (first | ((with_reducible refine gate_callee (f := 97) rfl ?_); refine goesL_ (some 11) rfl rfl Tryd.func97 (by kernel_rfl) rfl #[.string a0, .int .i64 a1] rfl goa_ ?_; (with_reducible refine (number_Value.calls k a0 a1 t218 t219 _ A3.out).mono ?_); rintro e w8 ⟨rfl, hb⟩; refine ⟨_, rfl, ?_⟩; have n0_ := Aside0.mk (below_step bel_ hb); clear HB; have HB := n0_; clear n0_; clear hb))
   go_ret2
   exact ⟨rsl_, bel_⟩

/-! ### value_Integer: function 46 -/
def value_Integer.j0 : Nat → Int → Bool → Int → Int → ByteArray → ByteArray → Option (Int × Int × Int)
 | 0, _, _, _, _, _, _ => none
 | k + 1, x1, x26, x225000, x225001, x225002, x225003 => if x26 = true then (some (0, x1, 50)) else ((value_scaled.f k x225003 1).bind fun bt228 => (if bt228.2 = 0 then (some (bt228.1, wrap64 (x1 + 1), 0)) else (some (0, x1, bt228.2))))
def value_Integer.f (k : Nat) (l0 : List (S67)) (a1 : Int) : Option (Int × Int × Int) := (value_word.f l0 a1).bind fun bt220 => (if bt220.1 = 3 then ((strings_Contains.f bt220.2.2.2 (⟨#[46]⟩ : ByteArray)).bind fun t225 => (if t225 = true then (value_Integer.j0 k a1 true bt220.1 bt220.2.1 bt220.2.2.1 bt220.2.2.2) else ((ident_Lower.f bt220.2.2.2).bind fun t226 => ((strings_Contains.f t226 (⟨#[101]⟩ : ByteArray)).bind fun t227 => (value_Integer.j0 k a1 t227 bt220.1 bt220.2.1 bt220.2.2.1 bt220.2.2.2))))) else (value_Integer.j0 k a1 true bt220.1 bt220.2.1 bt220.2.2.1 bt220.2.2.2))
theorem value_Integer.mono_l : ∀ k, (∀ y0 y1 y2 y3 y4 y5, LeO (value_Integer.j0 k y0 y1 y2 y3 y4 y5) (value_Integer.j0 (k + 1) y0 y1 y2 y3 y4 y5))
 | 0 => fun _ _ _ _ _ _ r h => by simp [value_Integer.j0] at h
 | k + 1 => by
  have ih0 := value_Integer.mono_l k
  ·intro y0 y1 y2 y3 y4 y5
   unfold value_Integer.j0
   repeat' first
   | (with_reducible exact ih0 _ _ _ _ _ _)
   | (with_reducible exact value_scaled.mono _ _ _)
   | (with_reducible exact LeO.refl _)
   | (with_reducible exact LeO.none _)
   | (with_reducible refine LeO.ite ?_ ?_)
   | (with_reducible refine LeO.bind ?_ (fun _ => ?_))
theorem value_Integer.mono : ∀ a0 a1 k, LeO (value_Integer.f k a0 a1) (value_Integer.f (k + 1) a0 a1) := by
 intro a0 a1 k
 have ih0 := value_Integer.mono_l k
 unfold value_Integer.f
 repeat' first
   | (with_reducible exact ih0 _ _ _ _ _ _)
   | (with_reducible exact value_scaled.mono _ _ _)
   | (with_reducible exact LeO.refl _)
   | (with_reducible exact LeO.none _)
   | (with_reducible refine LeO.ite ?_ ?_)
   | (with_reducible refine LeO.bind ?_ (fun _ => ?_))
set_option maxHeartbeats 8000000 in
set_option maxRecDepth 100000 in
theorem value_Integer.calls (k : Nat) (A0 : Option Addr) (c0 : Nat) (l0 : List (S67)) (a1 : Int) (r1 : Int) (r2 : Int) (r3 : Int) (w : World) (hr0 : Kd.C k67 w A0 l0.length l0) (hc0 : l0.length ≤ c0) (h : value_Integer.f k l0 a1 = some (r1, r2, r3)) :
  Calls Tryd.prog 46 #[.slice A0 l0.length c0, .int .i64 a1] w fun e w' => e = .returned (.tuple #[.int .i64 r1, .int .i64 r2, .int .i64 r3]) ∧ Below w.heap.size w w' := by
 have hu67 := Tryd.underlying67
 have HR0 := Aside0.mk hr0
 have HC0 := Aside0.mk hc0
 clear hr0 hc0
 have HB := Aside0.mk (Below.refl w.heap.size w)
 have H : ((value_word.f l0 a1).bind fun bt220 => (if bt220.1 = 3 then ((strings_Contains.f bt220.2.2.2 (⟨#[46]⟩ : ByteArray)).bind fun t225 => (if t225 = true then (value_Integer.j0 k a1 true bt220.1 bt220.2.1 bt220.2.2.1 bt220.2.2.2) else ((ident_Lower.f bt220.2.2.2).bind fun t226 => ((strings_Contains.f t226 (⟨#[101]⟩ : ByteArray)).bind fun t227 => (value_Integer.j0 k a1 t227 bt220.1 bt220.2.1 bt220.2.2.1 bt220.2.2.2))))) else (value_Integer.j0 k a1 true bt220.1 bt220.2.1 bt220.2.2.1 bt220.2.2.2))) = some (r1, r2, r3) := h
 clear h
 replace H := Option.bind_eq_some_iff.mp H
 obtain ⟨⟨t220, t221, t222, t223⟩, A30, H⟩ := H
 try dsimp only at H
 have A3 := Aside0.mk A30
 clear A30
 have HC4 := Aside0.mk H
 clear H
 go_enter Tryd.func46, Tryd.ntmps46
 go_upto_region 2 with (first | ((with_reducible refine gate_callee (f := 69) rfl ?_); refine goesL_ (some 12) rfl rfl Tryd.func69 (by kernel_rfl) rfl #[.slice A0 l0.length c0, .int .i64 a1] rfl goa_ ?_; (with_reducible refine (value_word.calls _ _ l0 a1 t220 t221 t222 t223 _ ?side1 ?side2 A3.out).mono ?_); (case side1 => repeat (first | exact HR0.out | (with_reducible refine Kd.C_alloc ?_ _) | (with_reducible refine Kd.C_drewN ?_ _) | (with_reducible refine Kd.C_drew ?_))); (case side2 => exact HC0.out); rintro e w5 ⟨rfl, hb⟩; refine ⟨_, rfl, ?_⟩; have n0_ := Aside0.mk (below_step bel_ hb); clear HB; have HB := n0_; clear n0_; clear hb) | ((with_reducible refine gate_dst (N := 7) rfl ?_); refine box_event ?hg (N := 7) ?hd (cs := #[.int .i64 0, .int .i64 0, .string (⟨#[]⟩ : ByteArray), .string (⟨#[]⟩ : ByteArray)]) (t := 67) ?hr ?_; (case hd => rfl); (case hg => rfl); (case hr => first | (go_simp; done) | (go_simp; rfl)); intro gb224 hg w6 hbox hb; have n0_ := Aside0.mk (below_step bel_ hb); have n1_ := Aside0.mk (hbox); have n2_ := Aside0.mk ((bsz_ hg : w.heap.size ≤ gb224)); have n3_ := Aside0.mk ((bsz_ hg : w.heap.size ≤ gb224)); clear HB; have HB := n0_; have BK224 := n1_; have GW224 := n2_; have GE224 := n3_; clear n0_ n1_ n2_ n3_; clear hb hbox hg; have hcz7_0 : w6.cell? ⟨gb224, 0, none⟩ = some (.int .i64 0) := (blk_cell BK224.out 0).trans rfl; have hcz7_1 : w6.cell? ⟨gb224, 1, none⟩ = some (.int .i64 0) := (blk_cell BK224.out 1).trans rfl; have hcz7_2 : w6.cell? ⟨gb224, 2, none⟩ = some (.string (⟨#[]⟩ : ByteArray)) := (blk_cell BK224.out 2).trans rfl; have hcz7_3 : w6.cell? ⟨gb224, 3, none⟩ = some (.string (⟨#[]⟩ : ByteArray)) := (blk_cell BK224.out 3).trans rfl; have hfz7_0 := blk_frozen BK224.out 0; have hfz7_1 := blk_frozen BK224.out 1; have hfz7_2 := blk_frozen BK224.out 2; have hfz7_3 := blk_frozen BK224.out 3))
 (try simp only [Act.put, List.setIfInBounds_toArray, List.set_cons_zero, List.set_cons_succ])
 go_cut [26] (fun v26 wc => ∃ (kq : Nat) (x26_3 : Bool), v26 = .bool x26_3 ∧ Aside0 (value_Integer.j0 kq a1 x26_3 t220 t221 t222 t223 = some (r1, r2, r3)) ∧ Aside0 (kq ≤ k) ∧ Aside0 (wc.heap[gb224]? = some (.cells #[.int .i64 t220, .int .i64 t221, .string t222, .string t223] 67 (0, 0))) ∧ Aside0 (Below w.heap.size w wc))
 case first =>
  have H := HC4.out
  clear HC4
  by_cases c8 : t220 = 3
  ·rw [if_pos c8] at H
   have c8b0 : (t220 == 3) = true := beq_iff_eq.mpr c8
   have c8b1 : (t220 != 3) = false := bne_eq_false_iff_eq.mpr c8
   clear c8
   (first | rw [c8b0] | (simp only [i64_w, i32_w]; rw [c8b0]) | skip)
   replace H := Option.bind_eq_some_iff.mp H
   obtain ⟨t225, A90, H⟩ := H
   try dsimp only at H
   have A9 := Aside0.mk A90
   clear A90
   by_cases c10 : t225 = true
   ·subst c10
    rw [if_pos rfl] at H
    have H' := Aside0.mk H
    clear H
    have hcz11_0 : w6.cell? ⟨gb224, 0, none⟩ = some (.int .i64 0) := (blk_cell BK224.out 0).trans rfl
    have hcz11_1 : w6.cell? ⟨gb224, 1, none⟩ = some (.int .i64 0) := (blk_cell BK224.out 1).trans rfl
    have hcz11_2 : w6.cell? ⟨gb224, 2, none⟩ = some (.string (⟨#[]⟩ : ByteArray)) := (blk_cell BK224.out 2).trans rfl
    have hcz11_3 : w6.cell? ⟨gb224, 3, none⟩ = some (.string (⟨#[]⟩ : ByteArray)) := (blk_cell BK224.out 3).trans rfl
    have hfz11_0 := blk_frozen BK224.out 0
    have hfz11_1 := blk_frozen BK224.out 1
    have hfz11_2 := blk_frozen BK224.out 2
    have hfz11_3 := blk_frozen BK224.out 3
    go_wp2_with (first | (go_at_call 76; (with_reducible refine (strings_Contains.calls t223 (⟨#[46]⟩ : ByteArray) true _ A9.out).mono ?_); rintro e w' ⟨rfl, ⟨nd, rfl⟩⟩))
    go_meet
    case rel => exact ⟨_, (true), rfs_, (by first | exact H' | (subst_vars; exact H')), ⟨ole_⟩, ⟨by (with_reducible repeat (first | refine blk_drewN ?_ _ | refine blk_drew ?_ | refine blk_alloc ?_ _)); refine blk_put (cs := #[.int .i64 t220, .int .i64 t221, .string t222, .string (⟨#[]⟩ : ByteArray)]) ?_ 3 _ rfl; (with_reducible repeat (first | refine blk_drewN ?_ _ | refine blk_drew ?_ | refine blk_alloc ?_ _)); refine blk_put (cs := #[.int .i64 t220, .int .i64 t221, .string (⟨#[]⟩ : ByteArray), .string (⟨#[]⟩ : ByteArray)]) ?_ 2 _ rfl; (with_reducible repeat (first | refine blk_drewN ?_ _ | refine blk_drew ?_ | refine blk_alloc ?_ _)); refine blk_put (cs := #[.int .i64 t220, .int .i64 0, .string (⟨#[]⟩ : ByteArray), .string (⟨#[]⟩ : ByteArray)]) ?_ 1 _ rfl; (with_reducible repeat (first | refine blk_drewN ?_ _ | refine blk_drew ?_ | refine blk_alloc ?_ _)); refine blk_put (cs := #[.int .i64 0, .int .i64 0, .string (⟨#[]⟩ : ByteArray), .string (⟨#[]⟩ : ByteArray)]) ?_ 0 _ rfl; (with_reducible repeat (first | refine blk_drewN ?_ _ | refine blk_drew ?_ | refine blk_alloc ?_ _)); exact BK224.out⟩, ⟨bel_⟩⟩
   ·replace c10 := Bool.eq_false_iff.mpr c10
    subst c10
    rw [if_neg (show ¬ (false = true) by decide)] at H
    replace H := Option.bind_eq_some_iff.mp H
    obtain ⟨t226, A120, H⟩ := H
    try dsimp only at H
    have A12 := Aside0.mk A120
    clear A120
    replace H := Option.bind_eq_some_iff.mp H
    obtain ⟨t227, A130, H⟩ := H
    try dsimp only at H
    have A13 := Aside0.mk A130
    clear A130
    have H' := Aside0.mk H
    clear H
    have hcz14_0 : w6.cell? ⟨gb224, 0, none⟩ = some (.int .i64 0) := (blk_cell BK224.out 0).trans rfl
    have hcz14_1 : w6.cell? ⟨gb224, 1, none⟩ = some (.int .i64 0) := (blk_cell BK224.out 1).trans rfl
    have hcz14_2 : w6.cell? ⟨gb224, 2, none⟩ = some (.string (⟨#[]⟩ : ByteArray)) := (blk_cell BK224.out 2).trans rfl
    have hcz14_3 : w6.cell? ⟨gb224, 3, none⟩ = some (.string (⟨#[]⟩ : ByteArray)) := (blk_cell BK224.out 3).trans rfl
    have hfz14_0 := blk_frozen BK224.out 0
    have hfz14_1 := blk_frozen BK224.out 1
    have hfz14_2 := blk_frozen BK224.out 2
    have hfz14_3 := blk_frozen BK224.out 3
    go_wp2_with (first | (go_at_call 76; (with_reducible refine (strings_Contains.calls t223 (⟨#[46]⟩ : ByteArray) false _ A9.out).mono ?_); rintro e w' ⟨rfl, ⟨nd, rfl⟩⟩) | (go_at_call 71; (with_reducible refine (ident_Lower.calls t223 t226 _ A12.out).mono ?_); rintro e w15 ⟨rfl, hb⟩; have n0_ := Aside0.mk (blk_below (g := gb224) (o := .cells #[.int .i64 t220, .int .i64 t221, .string t222, .string t223] 67 (0, 0)) (by (with_reducible repeat (first | refine blk_drewN ?_ _ | refine blk_drew ?_ | refine blk_alloc ?_ _)); refine blk_put (cs := #[.int .i64 t220, .int .i64 t221, .string t222, .string (⟨#[]⟩ : ByteArray)]) ?_ 3 _ rfl; (with_reducible repeat (first | refine blk_drewN ?_ _ | refine blk_drew ?_ | refine blk_alloc ?_ _)); refine blk_put (cs := #[.int .i64 t220, .int .i64 t221, .string (⟨#[]⟩ : ByteArray), .string (⟨#[]⟩ : ByteArray)]) ?_ 2 _ rfl; (with_reducible repeat (first | refine blk_drewN ?_ _ | refine blk_drew ?_ | refine blk_alloc ?_ _)); refine blk_put (cs := #[.int .i64 t220, .int .i64 0, .string (⟨#[]⟩ : ByteArray), .string (⟨#[]⟩ : ByteArray)]) ?_ 1 _ rfl; (with_reducible repeat (first | refine blk_drewN ?_ _ | refine blk_drew ?_ | refine blk_alloc ?_ _)); refine blk_put (cs := #[.int .i64 0, .int .i64 0, .string (⟨#[]⟩ : ByteArray), .string (⟨#[]⟩ : ByteArray)]) ?_ 0 _ rfl; (with_reducible repeat (first | refine blk_drewN ?_ _ | refine blk_drew ?_ | refine blk_alloc ?_ _)); exact BK224.out) hb); have n1_ := Aside0.mk (below_step bel_ hb); clear BK224; clear HB; have BK224 := n0_; have HB := n1_; clear n0_ n1_; clear hb) | (go_at_call 76; (with_reducible refine (strings_Contains.calls t226 (⟨#[101]⟩ : ByteArray) t227 _ A13.out).mono ?_); rintro e w' ⟨rfl, ⟨nd, rfl⟩⟩))
    go_meet
    case rel => exact ⟨_, (t227), rfs_, (by first | exact H' | (subst_vars; exact H')), ⟨ole_⟩, ⟨blk_⟩, ⟨bel_⟩⟩
  ·rw [if_neg c8] at H
   have c8b0 : (t220 == 3) = false := beq_eq_false_iff_ne.mpr c8
   have c8b1 : (t220 != 3) = true := bne_iff_ne.mpr c8
   (first | rw [c8b0] | (simp only [i64_w, i32_w]; rw [c8b0]) | skip)
   have H' := Aside0.mk H
   clear H
   have hcz16_0 : w6.cell? ⟨gb224, 0, none⟩ = some (.int .i64 0) := (blk_cell BK224.out 0).trans rfl
   have hcz16_1 : w6.cell? ⟨gb224, 1, none⟩ = some (.int .i64 0) := (blk_cell BK224.out 1).trans rfl
   have hcz16_2 : w6.cell? ⟨gb224, 2, none⟩ = some (.string (⟨#[]⟩ : ByteArray)) := (blk_cell BK224.out 2).trans rfl
   have hcz16_3 : w6.cell? ⟨gb224, 3, none⟩ = some (.string (⟨#[]⟩ : ByteArray)) := (blk_cell BK224.out 3).trans rfl
   have hfz16_0 := blk_frozen BK224.out 0
   have hfz16_1 := blk_frozen BK224.out 1
   have hfz16_2 := blk_frozen BK224.out 2
   have hfz16_3 := blk_frozen BK224.out 3
   go_wp2
   go_meet
   case rel => exact ⟨_, (true), rfs_, (by first | exact H' | (subst_vars; exact H')), ⟨ole_⟩, ⟨by (with_reducible repeat (first | refine blk_drewN ?_ _ | refine blk_drew ?_ | refine blk_alloc ?_ _)); refine blk_put (cs := #[.int .i64 t220, .int .i64 t221, .string t222, .string (⟨#[]⟩ : ByteArray)]) ?_ 3 _ rfl; (with_reducible repeat (first | refine blk_drewN ?_ _ | refine blk_drew ?_ | refine blk_alloc ?_ _)); refine blk_put (cs := #[.int .i64 t220, .int .i64 t221, .string (⟨#[]⟩ : ByteArray), .string (⟨#[]⟩ : ByteArray)]) ?_ 2 _ rfl; (with_reducible repeat (first | refine blk_drewN ?_ _ | refine blk_drew ?_ | refine blk_alloc ?_ _)); refine blk_put (cs := #[.int .i64 t220, .int .i64 0, .string (⟨#[]⟩ : ByteArray), .string (⟨#[]⟩ : ByteArray)]) ?_ 1 _ rfl; (with_reducible repeat (first | refine blk_drewN ?_ _ | refine blk_drew ?_ | refine blk_alloc ?_ _)); refine blk_put (cs := #[.int .i64 0, .int .i64 0, .string (⟨#[]⟩ : ByteArray), .string (⟨#[]⟩ : ByteArray)]) ?_ 0 _ rfl; (with_reducible repeat (first | refine blk_drewN ?_ _ | refine blk_drew ?_ | refine blk_alloc ?_ _)); exact BK224.out⟩, ⟨bel_⟩⟩
 case rest =>
  clear HC4
  try clear c1
  try clear p2
  try clear c4
  try clear c6
  try clear c8
  try clear c8b0
  try clear c8b1
  try clear c10
  try clear hcz11_0
  try clear hcz11_1
  try clear hcz11_2
  try clear hcz11_3
  try clear hcz14_0
  try clear hcz14_1
  try clear hcz14_2
  try clear hcz14_3
  try clear hcz16_0
  try clear hcz16_1
  try clear hcz16_2
  try clear hcz16_3
  try clear hcz7_0
  try clear hcz7_1
  try clear hcz7_2
  try clear hcz7_3
  try clear hfz11_0
  try clear hfz11_1
  try clear hfz11_2
  try clear hfz11_3
  try clear hfz14_0
  try clear hfz14_1
  try clear hfz14_2
  try clear hfz14_3
  try clear hfz16_0
  try clear hfz16_1
  try clear hfz16_2
  try clear hfz16_3
  try clear hfz7_0
  try clear hfz7_1
  try clear hfz7_2
  try clear hfz7_3
  obtain ⟨kq, x26_3, rfl, HA, HJ3, BK224, HB⟩ := hcut
  cases kq with
  | zero => exact absurd HA.out (by simp [value_Integer.j0])
  | succ kj3 =>
   have H := HA.out
   clear HA
   simp only [value_Integer.j0] at H
   by_cases c17 : x26_3 = true
   ·subst c17
    rw [if_pos rfl] at H
    simp only [Option.some.injEq, Prod.mk.injEq] at H
    obtain ⟨rfl, rfl, rfl⟩ := H
    go_wp2
    go_ret3
    exact ⟨rsl_, bel_⟩
   ·replace c17 := Bool.eq_false_iff.mpr c17
    subst c17
    rw [if_neg (show ¬ (false = true) by decide)] at H
    replace H := Option.bind_eq_some_iff.mp H
    obtain ⟨⟨t228, t229⟩, A180, H⟩ := H
    try dsimp only at H
    have A18 := Aside0.mk A180
    clear A180
    by_cases c19 : t229 = 0
    ·rw [if_pos c19] at H
     have c19b0 : (t229 == 0) = true := beq_iff_eq.mpr c19
     have c19b1 : (t229 != 0) = false := bne_eq_false_iff_eq.mpr c19
     clear c19
     simp only [Option.some.injEq, Prod.mk.injEq] at H
     obtain ⟨rfl, rfl, rfl⟩ := H
     have hcz20_0 : wc.cell? ⟨gb224, 0, none⟩ = some (.int .i64 t220) := (blk_cell BK224.out 0).trans rfl
     have hcz20_1 : wc.cell? ⟨gb224, 1, none⟩ = some (.int .i64 t221) := (blk_cell BK224.out 1).trans rfl
     have hcz20_2 : wc.cell? ⟨gb224, 2, none⟩ = some (.string t222) := (blk_cell BK224.out 2).trans rfl
     have hcz20_3 : wc.cell? ⟨gb224, 3, none⟩ = some (.string t223) := (blk_cell BK224.out 3).trans rfl
     have hfz20_0 := blk_frozen BK224.out 0
     have hfz20_1 := blk_frozen BK224.out 1
     have hfz20_2 := blk_frozen BK224.out 2
     have hfz20_3 := blk_frozen BK224.out 3
     go_wp2_with (first | ((with_reducible refine gate_callee (f := 77) rfl ?_); refine goesL_ (some 31) rfl rfl Tryd.func77 (by kernel_rfl) rfl #[.string t223, .int .i64 1] rfl goa_ ?_; (with_reducible refine (value_scaled.calls kj3 t223 1 t228 t229 _ A18.out).mono ?_); rintro e w21 ⟨rfl, hb⟩; refine ⟨_, rfl, ?_⟩; have n0_ := blb_ BK224 hb; have n1_ := Aside0.mk (below_step bel_ hb); clear BK224; clear HB; have BK224 := n0_; have HB := n1_; clear n0_ n1_; clear hb))
     go_ret3
     exact ⟨rsl_, bel_⟩
    ·rw [if_neg c19] at H
     have c19b0 : (t229 == 0) = false := beq_eq_false_iff_ne.mpr c19
     have c19b1 : (t229 != 0) = true := bne_iff_ne.mpr c19
     simp only [Option.some.injEq, Prod.mk.injEq] at H
     obtain ⟨rfl, rfl, rfl⟩ := H
     have hcz22_0 : wc.cell? ⟨gb224, 0, none⟩ = some (.int .i64 t220) := (blk_cell BK224.out 0).trans rfl
     have hcz22_1 : wc.cell? ⟨gb224, 1, none⟩ = some (.int .i64 t221) := (blk_cell BK224.out 1).trans rfl
     have hcz22_2 : wc.cell? ⟨gb224, 2, none⟩ = some (.string t222) := (blk_cell BK224.out 2).trans rfl
     have hcz22_3 : wc.cell? ⟨gb224, 3, none⟩ = some (.string t223) := (blk_cell BK224.out 3).trans rfl
     have hfz22_0 := blk_frozen BK224.out 0
     have hfz22_1 := blk_frozen BK224.out 1
     have hfz22_2 := blk_frozen BK224.out 2
     have hfz22_3 := blk_frozen BK224.out 3
     go_wp2_with (first | ((with_reducible refine gate_callee (f := 77) rfl ?_); refine goesL_ (some 31) rfl rfl Tryd.func77 (by kernel_rfl) rfl #[.string t223, .int .i64 1] rfl goa_ ?_; (with_reducible refine (value_scaled.calls kj3 t223 1 t228 t229 _ A18.out).mono ?_); rintro e w23 ⟨rfl, hb⟩; refine ⟨_, rfl, ?_⟩; have n0_ := blb_ BK224 hb; have n1_ := Aside0.mk (below_step bel_ hb); clear BK224; clear HB; have BK224 := n0_; have HB := n1_; clear n0_ n1_; clear hb))
     go_ret3
     exact ⟨rsl_, bel_⟩

/-! ### line_other: function 48 -/
def line_other.f (a0_0 : Int) (a0_1 : Int) (a0_2 : ByteArray) : Option (Int × Int × ByteArray) := if a0_0 = 3 then (some (a0_0, a0_1, a0_2)) else ((line_auto.f).bind fun bt232 => (some (bt232.1, bt232.2.1, bt232.2.2)))
set_option maxHeartbeats 8000000 in
set_option maxRecDepth 100000 in
theorem line_other.calls (a0_0 : Int) (a0_1 : Int) (a0_2 : ByteArray) (r1 : Int) (r2 : Int) (r3 : ByteArray) (w : World) (h : line_other.f a0_0 a0_1 a0_2 = some (r1, r2, r3)) :
  Calls Tryd.prog 48 #[.agg #[.int .i64 a0_0, .int .i64 a0_1, .string a0_2]] w fun e w' => e = .returned (.agg #[.int .i64 r1, .int .i64 r2, .string r3]) ∧ Below w.heap.size w w' := by
 have hu41 := Tryd.underlying41
 have HB := Aside0.mk (Below.refl w.heap.size w)
 have H : (if a0_0 = 3 then (some (a0_0, a0_1, a0_2)) else ((line_auto.f).bind fun bt232 => (some (bt232.1, bt232.2.1, bt232.2.2)))) = some (r1, r2, r3) := h
 clear h
 by_cases c2 : a0_0 = 3
 ·rw [if_pos c2] at H
  have c2b0 : (a0_0 == 3) = true := beq_iff_eq.mpr c2
  have c2b1 : (a0_0 != 3) = false := bne_eq_false_iff_eq.mpr c2
  clear c2
  simp only [Option.some.injEq, Prod.mk.injEq] at H
  obtain ⟨rfl, rfl, rfl⟩ := H
  go_enter Tryd.func48, Tryd.ntmps48
  go_wp2_with (first | ((with_reducible refine gate_dst (N := 1) rfl ?_); refine box_event ?hg (N := 1) ?hd (cs := #[.int .i64 a0_0, .int .i64 a0_1, .string a0_2]) (t := 41) ?hr ?_; (case hd => rfl); (case hg => rfl); (case hr => first | (go_simp; done) | (go_simp; rfl)); intro gb230 hg w3 hbox hb; have n0_ := Aside0.mk (below_step bel_ hb); have n1_ := Aside0.mk (hbox); have n2_ := Aside0.mk ((bsz_ hg : w.heap.size ≤ gb230)); have n3_ := Aside0.mk ((bsz_ hg : w.heap.size ≤ gb230)); clear HB; have HB := n0_; have BK230 := n1_; have GW230 := n2_; have GE230 := n3_; clear n0_ n1_ n2_ n3_; clear hb hbox hg) | ((with_reducible refine gate_dst (N := 2) rfl ?_); refine box_event ?hg (N := 2) ?hd (cs := #[.int .i64 0, .int .i64 0, .string (⟨#[]⟩ : ByteArray)]) (t := 41) ?hr ?_; (case hd => rfl); (case hg => rfl); (case hr => first | (go_simp; done) | (go_simp; rfl)); intro gb231 hg w4 hbox hb; have n0_ := blb_ BK230 hb; have n1_ := Aside0.mk (below_step bel_ hb); have n2_ := Aside0.mk (hbox); have n3_ := Aside0.mk ((bsz_ hg : w.heap.size ≤ gb231)); have n4_ := Aside0.mk ((bsz_ hg : w.heap.size ≤ gb231)); have n5_ := Aside0.mk (bne_ BK230 hg : gb230 ≠ gb231); have n6_ := Aside0.mk (bng_ BK230 hg : gb231 ≠ gb230); clear BK230; clear HB; have BK230 := n0_; have HB := n1_; have BK231 := n2_; have GW231 := n3_; have GE231 := n4_; have NB230_231 := n5_; have NB231_230 := n6_; clear n0_ n1_ n2_ n3_ n4_ n5_ n6_; clear hb hbox hg; have hnb5 := NB230_231.out; have hnc5 := NB231_230.out; have hcz6_0 : w4.cell? ⟨gb230, 0, none⟩ = some (.int .i64 a0_0) := (blk_cell BK230.out 0).trans rfl; have hcz6_1 : w4.cell? ⟨gb230, 1, none⟩ = some (.int .i64 a0_1) := (blk_cell BK230.out 1).trans rfl; have hcz6_2 : w4.cell? ⟨gb230, 2, none⟩ = some (.string a0_2) := (blk_cell BK230.out 2).trans rfl; have hfz6_0 := blk_frozen BK230.out 0; have hfz6_1 := blk_frozen BK230.out 1; have hfz6_2 := blk_frozen BK230.out 2; have hcz7_0 : w4.cell? ⟨gb231, 0, none⟩ = some (.int .i64 0) := (blk_cell BK231.out 0).trans rfl; have hcz7_1 : w4.cell? ⟨gb231, 1, none⟩ = some (.int .i64 0) := (blk_cell BK231.out 1).trans rfl; have hcz7_2 : w4.cell? ⟨gb231, 2, none⟩ = some (.string (⟨#[]⟩ : ByteArray)) := (blk_cell BK231.out 2).trans rfl; have hfz7_0 := blk_frozen BK231.out 0; have hfz7_1 := blk_frozen BK231.out 1; have hfz7_2 := blk_frozen BK231.out 2))
  refine bodyPost_ret (results_cell_row rfl _ _ gb231 41 #[.int .i64 a0_0, .int .i64 a0_1, .string a0_2] (0, 0) _ rfl (by (with_reducible repeat (first | refine blk_drewN ?_ _ | refine blk_drew ?_ | refine blk_alloc ?_ _)); refine blk_put (cs := #[.int .i64 a0_0, .int .i64 a0_1, .string (⟨#[]⟩ : ByteArray)]) ?_ 2 _ rfl; (with_reducible repeat (first | refine blk_drewN ?_ _ | refine blk_drew ?_ | refine blk_alloc ?_ _)); refine blk_put (cs := #[.int .i64 a0_0, .int .i64 0, .string (⟨#[]⟩ : ByteArray)]) ?_ 1 _ rfl; (with_reducible repeat (first | refine blk_drewN ?_ _ | refine blk_drew ?_ | refine blk_alloc ?_ _)); refine blk_put (cs := #[.int .i64 0, .int .i64 0, .string (⟨#[]⟩ : ByteArray)]) ?_ 0 _ rfl; (with_reducible repeat (first | refine blk_drewN ?_ _ | refine blk_drew ?_ | refine blk_alloc ?_ _)); exact BK231.out) Tryd.underlying41 rfl (by kernel_rfl)) rfl ?_
  exact ⟨rsl_, bel_⟩
 ·rw [if_neg c2] at H
  have c2b0 : (a0_0 == 3) = false := beq_eq_false_iff_ne.mpr c2
  have c2b1 : (a0_0 != 3) = true := bne_iff_ne.mpr c2
  replace H := Option.bind_eq_some_iff.mp H
  obtain ⟨⟨t232, t233, t234⟩, A80, H⟩ := H
  try dsimp only at H
  have A8 := Aside0.mk A80
  clear A80
  simp only [Option.some.injEq, Prod.mk.injEq] at H
  obtain ⟨rfl, rfl, rfl⟩ := H
  go_enter Tryd.func48, Tryd.ntmps48
  go_wp2_with (first | ((with_reducible refine gate_dst (N := 1) rfl ?_); refine box_event ?hg (N := 1) ?hd (cs := #[.int .i64 a0_0, .int .i64 a0_1, .string a0_2]) (t := 41) ?hr ?_; (case hd => rfl); (case hg => rfl); (case hr => first | (go_simp; done) | (go_simp; rfl)); intro gb230 hg w9 hbox hb; have n0_ := Aside0.mk (below_step bel_ hb); have n1_ := Aside0.mk (hbox); have n2_ := Aside0.mk ((bsz_ hg : w.heap.size ≤ gb230)); have n3_ := Aside0.mk ((bsz_ hg : w.heap.size ≤ gb230)); clear HB; have HB := n0_; have BK230 := n1_; have GW230 := n2_; have GE230 := n3_; clear n0_ n1_ n2_ n3_; clear hb hbox hg) | ((with_reducible refine gate_dst (N := 2) rfl ?_); refine box_event ?hg (N := 2) ?hd (cs := #[.int .i64 0, .int .i64 0, .string (⟨#[]⟩ : ByteArray)]) (t := 41) ?hr ?_; (case hd => rfl); (case hg => rfl); (case hr => first | (go_simp; done) | (go_simp; rfl)); intro gb231 hg w10 hbox hb; have n0_ := blb_ BK230 hb; have n1_ := Aside0.mk (below_step bel_ hb); have n2_ := Aside0.mk (hbox); have n3_ := Aside0.mk ((bsz_ hg : w.heap.size ≤ gb231)); have n4_ := Aside0.mk ((bsz_ hg : w.heap.size ≤ gb231)); have n5_ := Aside0.mk (bne_ BK230 hg : gb230 ≠ gb231); have n6_ := Aside0.mk (bng_ BK230 hg : gb231 ≠ gb230); clear BK230; clear HB; have BK230 := n0_; have HB := n1_; have BK231 := n2_; have GW231 := n3_; have GE231 := n4_; have NB230_231 := n5_; have NB231_230 := n6_; clear n0_ n1_ n2_ n3_ n4_ n5_ n6_; clear hb hbox hg; have hnb11 := NB230_231.out; have hnc11 := NB231_230.out; have hcz12_0 : w10.cell? ⟨gb230, 0, none⟩ = some (.int .i64 a0_0) := (blk_cell BK230.out 0).trans rfl; have hcz12_1 : w10.cell? ⟨gb230, 1, none⟩ = some (.int .i64 a0_1) := (blk_cell BK230.out 1).trans rfl; have hcz12_2 : w10.cell? ⟨gb230, 2, none⟩ = some (.string a0_2) := (blk_cell BK230.out 2).trans rfl; have hfz12_0 := blk_frozen BK230.out 0; have hfz12_1 := blk_frozen BK230.out 1; have hfz12_2 := blk_frozen BK230.out 2) | ((with_reducible refine gate_callee (f := 41) rfl ?_); refine goesL_ (some 7) rfl rfl Tryd.func41 (by kernel_rfl) rfl #[] rfl goa_ ?_; (with_reducible refine (line_auto.calls  t232 t233 t234 _ A8.out).mono ?_); rintro e w13 ⟨rfl, hb⟩; refine ⟨_, rfl, ?_⟩; have n0_ := blb_ BK230 hb; have n1_ := blb_ BK231 hb; have n2_ := Aside0.mk (below_step bel_ hb); clear BK230; clear BK231; clear HB; have BK230 := n0_; have BK231 := n1_; have HB := n2_; clear n0_ n1_ n2_; clear hb; have hcz14_0 : w13.cell? ⟨gb231, 0, none⟩ = some (.int .i64 0) := (blk_cell BK231.out 0).trans rfl; have hcz14_1 : w13.cell? ⟨gb231, 1, none⟩ = some (.int .i64 0) := (blk_cell BK231.out 1).trans rfl; have hcz14_2 : w13.cell? ⟨gb231, 2, none⟩ = some (.string (⟨#[]⟩ : ByteArray)) := (blk_cell BK231.out 2).trans rfl; have hfz14_0 := blk_frozen BK231.out 0; have hfz14_1 := blk_frozen BK231.out 1; have hfz14_2 := blk_frozen BK231.out 2))
  refine bodyPost_ret (results_cell_row rfl _ _ gb231 41 #[.int .i64 t232, .int .i64 t233, .string t234] (0, 0) _ rfl (by (with_reducible repeat (first | refine blk_drewN ?_ _ | refine blk_drew ?_ | refine blk_alloc ?_ _)); refine blk_put (cs := #[.int .i64 t232, .int .i64 t233, .string (⟨#[]⟩ : ByteArray)]) ?_ 2 _ rfl; (with_reducible repeat (first | refine blk_drewN ?_ _ | refine blk_drew ?_ | refine blk_alloc ?_ _)); refine blk_put (cs := #[.int .i64 t232, .int .i64 0, .string (⟨#[]⟩ : ByteArray)]) ?_ 1 _ rfl; (with_reducible repeat (first | refine blk_drewN ?_ _ | refine blk_drew ?_ | refine blk_alloc ?_ _)); refine blk_put (cs := #[.int .i64 0, .int .i64 0, .string (⟨#[]⟩ : ByteArray)]) ?_ 0 _ rfl; (with_reducible repeat (first | refine blk_drewN ?_ _ | refine blk_drew ?_ | refine blk_alloc ?_ _)); exact BK231.out) Tryd.underlying41 rfl (by kernel_rfl)) rfl ?_
  exact ⟨rsl_, bel_⟩

/-! ### value_Sign: function 78 -/
def value_Sign.f (l0 : List (S67)) (a1 : Int) (a2 : ByteArray) : Option (Bool) := (value_word.f l0 a1).bind fun bt235 => (if bt235.1 = 7 then (some (bt235.2.2.1.toList == a2.toList)) else (some false))
set_option maxHeartbeats 8000000 in
set_option maxRecDepth 100000 in
theorem value_Sign.calls (A0 : Option Addr) (c0 : Nat) (l0 : List (S67)) (a1 : Int) (a2 : ByteArray) (r : Bool) (w : World) (hr0 : Kd.C k67 w A0 l0.length l0) (hc0 : l0.length ≤ c0) (h : value_Sign.f l0 a1 a2 = some r) :
  Calls Tryd.prog 78 #[.slice A0 l0.length c0, .int .i64 a1, .string a2] w fun e w' => e = .returned (.bool r) ∧ Below w.heap.size w w' := by
 have hu67 := Tryd.underlying67
 have HR0 := Aside0.mk hr0
 have HC0 := Aside0.mk hc0
 clear hr0 hc0
 have HB := Aside0.mk (Below.refl w.heap.size w)
 have H : ((value_word.f l0 a1).bind fun bt235 => (if bt235.1 = 7 then (some (bt235.2.2.1.toList == a2.toList)) else (some false))) = some r := h
 clear h
 replace H := Option.bind_eq_some_iff.mp H
 obtain ⟨⟨t235, t236, t237, t238⟩, A40, H⟩ := H
 try dsimp only at H
 have A4 := Aside0.mk A40
 clear A40
 by_cases c5 : t235 = 7
 ·rw [if_pos c5] at H
  have c5b0 : (t235 == 7) = true := beq_iff_eq.mpr c5
  have c5b1 : (t235 != 7) = false := bne_eq_false_iff_eq.mpr c5
  clear c5
  obtain rfl := Option.some.inj H
  go_enter Tryd.func78, Tryd.ntmps78
  go_wp2_with (first | ((with_reducible refine gate_callee (f := 69) rfl ?_); refine goesL_ (some 10) rfl rfl Tryd.func69 (by kernel_rfl) rfl #[.slice A0 l0.length c0, .int .i64 a1] rfl goa_ ?_; (with_reducible refine (value_word.calls _ _ l0 a1 t235 t236 t237 t238 _ ?side1 ?side2 A4.out).mono ?_); (case side1 => repeat (first | exact HR0.out | (with_reducible refine Kd.C_alloc ?_ _) | (with_reducible refine Kd.C_drewN ?_ _) | (with_reducible refine Kd.C_drew ?_))); (case side2 => exact HC0.out); rintro e w6 ⟨rfl, hb⟩; refine ⟨_, rfl, ?_⟩; have n0_ := Aside0.mk (below_step bel_ hb); clear HB; have HB := n0_; clear n0_; clear hb) | ((with_reducible refine gate_dst (N := 7) rfl ?_); refine box_event ?hg (N := 7) ?hd (cs := #[.int .i64 0, .int .i64 0, .string (⟨#[]⟩ : ByteArray), .string (⟨#[]⟩ : ByteArray)]) (t := 67) ?hr ?_; (case hd => rfl); (case hg => rfl); (case hr => first | (go_simp; done) | (go_simp; rfl)); intro gb239 hg w7 hbox hb; have n0_ := Aside0.mk (below_step bel_ hb); have n1_ := Aside0.mk (hbox); have n2_ := Aside0.mk ((bsz_ hg : w.heap.size ≤ gb239)); have n3_ := Aside0.mk ((bsz_ hg : w.heap.size ≤ gb239)); clear HB; have HB := n0_; have BK239 := n1_; have GW239 := n2_; have GE239 := n3_; clear n0_ n1_ n2_ n3_; clear hb hbox hg; have hcz8_0 : w7.cell? ⟨gb239, 0, none⟩ = some (.int .i64 0) := (blk_cell BK239.out 0).trans rfl; have hcz8_1 : w7.cell? ⟨gb239, 1, none⟩ = some (.int .i64 0) := (blk_cell BK239.out 1).trans rfl; have hcz8_2 : w7.cell? ⟨gb239, 2, none⟩ = some (.string (⟨#[]⟩ : ByteArray)) := (blk_cell BK239.out 2).trans rfl; have hcz8_3 : w7.cell? ⟨gb239, 3, none⟩ = some (.string (⟨#[]⟩ : ByteArray)) := (blk_cell BK239.out 3).trans rfl; have hfz8_0 := blk_frozen BK239.out 0; have hfz8_1 := blk_frozen BK239.out 1; have hfz8_2 := blk_frozen BK239.out 2; have hfz8_3 := blk_frozen BK239.out 3))
  go_ret
  exact ⟨rsl_, bel_⟩
 ·rw [if_neg c5] at H
  have c5b0 : (t235 == 7) = false := beq_eq_false_iff_ne.mpr c5
  have c5b1 : (t235 != 7) = true := bne_iff_ne.mpr c5
  obtain rfl := Option.some.inj H
  go_enter Tryd.func78, Tryd.ntmps78
  go_wp2_with (first | ((with_reducible refine gate_callee (f := 69) rfl ?_); refine goesL_ (some 10) rfl rfl Tryd.func69 (by kernel_rfl) rfl #[.slice A0 l0.length c0, .int .i64 a1] rfl goa_ ?_; (with_reducible refine (value_word.calls _ _ l0 a1 t235 t236 t237 t238 _ ?side1 ?side2 A4.out).mono ?_); (case side1 => repeat (first | exact HR0.out | (with_reducible refine Kd.C_alloc ?_ _) | (with_reducible refine Kd.C_drewN ?_ _) | (with_reducible refine Kd.C_drew ?_))); (case side2 => exact HC0.out); rintro e w9 ⟨rfl, hb⟩; refine ⟨_, rfl, ?_⟩; have n0_ := Aside0.mk (below_step bel_ hb); clear HB; have HB := n0_; clear n0_; clear hb) | ((with_reducible refine gate_dst (N := 7) rfl ?_); refine box_event ?hg (N := 7) ?hd (cs := #[.int .i64 0, .int .i64 0, .string (⟨#[]⟩ : ByteArray), .string (⟨#[]⟩ : ByteArray)]) (t := 67) ?hr ?_; (case hd => rfl); (case hg => rfl); (case hr => first | (go_simp; done) | (go_simp; rfl)); intro gb239 hg w10 hbox hb; have n0_ := Aside0.mk (below_step bel_ hb); have n1_ := Aside0.mk (hbox); have n2_ := Aside0.mk ((bsz_ hg : w.heap.size ≤ gb239)); have n3_ := Aside0.mk ((bsz_ hg : w.heap.size ≤ gb239)); clear HB; have HB := n0_; have BK239 := n1_; have GW239 := n2_; have GE239 := n3_; clear n0_ n1_ n2_ n3_; clear hb hbox hg; have hcz11_0 : w10.cell? ⟨gb239, 0, none⟩ = some (.int .i64 0) := (blk_cell BK239.out 0).trans rfl; have hcz11_1 : w10.cell? ⟨gb239, 1, none⟩ = some (.int .i64 0) := (blk_cell BK239.out 1).trans rfl; have hcz11_2 : w10.cell? ⟨gb239, 2, none⟩ = some (.string (⟨#[]⟩ : ByteArray)) := (blk_cell BK239.out 2).trans rfl; have hcz11_3 : w10.cell? ⟨gb239, 3, none⟩ = some (.string (⟨#[]⟩ : ByteArray)) := (blk_cell BK239.out 3).trans rfl; have hfz11_0 := blk_frozen BK239.out 0; have hfz11_1 := blk_frozen BK239.out 1; have hfz11_2 := blk_frozen BK239.out 2; have hfz11_3 := blk_frozen BK239.out 3))
  go_ret
  exact ⟨rsl_, bel_⟩

end Go.Proofs.YtofdhdafabmhmaaDoor.PLa
end
