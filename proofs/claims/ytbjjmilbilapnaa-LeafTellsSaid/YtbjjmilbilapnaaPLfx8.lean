-- Written by a program of this session (wip/p2) out of the translation; Lean checks it.
import Derived.Test.YtbjjmilbilapnaaPLfx0
import Derived.Test.YtbjjmilbilapnaaPLfx2
import Derived.Test.YtbjjmilbilapnaaPLfx5
import Derived.Test.YtbjjmilbilapnaaPLfx6
namespace Go.Proofs.Ytbjjmilbilapnaa.PLf
open Go.RowKit Go.Proofs.YtbjjmilbilapnaaW.PrintWords Go.Proofs.YtbjjmilbilapnaaW.PrintLast Go.Proofs.YtbjjmilbilapnaaW.PrintMore
attribute [local go_sem] max2_int min2_int max_two min_two max_three min_three max_four min_four   -- for this text's walks alone
set_option linter.unusedVariables false
set_option linter.unusedSimpArgs false
open Go.Proofs.Ytbjjmilbilapnaa.Opn Go.Proofs.Ytbjjmilbilapnaa.Giv

attribute [local go_sem high] eqA54
/-! ### leaf_Lines: function 38 -/
def leaf_Lines.zero (v : S54) : Bool := decide (v.f0 = 0) && (decide (v.f1 = 0) && (decide (v.f2 = 0) && decide (v.f3 = 0)))
def leaf_Lines.ended (out : List S54) (now : S54) : List S54 := if leaf_Lines.zero now = true then out else out ++ [now]
def leaf_Lines.l0 : Nat → List (List S59) → Int → Int → List S54 → S54 → Option (List S54 × Int)
  | 0, _, _, _, _, _ => none
  | k + 1, l0, a1, i, out, now => if out.length < 1000000000 then (if i < (l0.length : Int) then (if 0 ≤ i then ((leaf_word.f k (rd_L2 l0 i) i).bind fun x => (if now.f1 > 0 ∧ wrap64 (now.f2 + x.2.2.1) ≤ a1 then leaf_Lines.l0 k l0 a1 (wrap64 (i + 1)) out ⟨now.f0, x.2.1, wrap64 (now.f2 + x.2.2.1), mx now.f3 x.2.2.2⟩
      else leaf_Lines.l0 k l0 a1 (wrap64 (i + 1)) (leaf_Lines.ended out now) ⟨x.1, x.2.1, x.2.2.1, x.2.2.2⟩)) else none) else some (leaf_Lines.ended out now, 0)) else none
def leaf_Lines.f (k : Nat) (l0 : List (List S59)) (a1 : Int) : Option (List S54 × Int) :=
  (leaf_look.f k l0).bind fun t => if t.2 = 0 then leaf_Lines.l0 k l0 a1 0 [] ⟨0, 0, 0, 0⟩ else some ([], t.2)
theorem leaf_Lines.mono_l : ∀ k, (∀ y0 y1 y2 y3 y4, LeO (leaf_Lines.l0 k y0 y1 y2 y3 y4) (leaf_Lines.l0 (k + 1) y0 y1 y2 y3 y4))
  | 0 => fun _ _ _ _ _ r h => by simp [leaf_Lines.l0] at h
  | k + 1 => by
    have ih0 := leaf_Lines.mono_l k
    intro y0 y1 y2 y3 y4
    unfold leaf_Lines.l0
    refine LeO.ite (LeO.ite (LeO.ite (LeO.bind (leaf_word.mono _ _ _) (fun _ => LeO.ite (ih0 _ _ _ _ _) (ih0 _ _ _ _ _))) (LeO.none _)) (LeO.refl _)) (LeO.none _)
theorem leaf_Lines.mono : ∀ a0 a1 k, LeO (leaf_Lines.f k a0 a1) (leaf_Lines.f (k + 1) a0 a1) := by
  intro a0 a1 k
  unfold leaf_Lines.f
  exact LeO.bind (leaf_look.mono _ _) (fun _ => LeO.ite (leaf_Lines.mono_l k _ _ _ _ _) (LeO.refl _))

/-- What the closure leaves: the list in its variable, all else as it was. -/
structure leaf_Lines.Holds (w w1 : World) (bo bn : Nat) (out : List S54) (now : S54) (v : Value) : Prop where
  o : w1.heap[bo]? = some (.cells #[v] 46 (0, 0))
  n : w1.heap[bn]? = some (.cells #[.int .i64 now.f0, .int .i64 now.f1, .int .i64 now.f2, .int .i64 now.f3] 54 (0, 0))
  r : Kd.R k54 54 w1 w.heap.size (fun k => k ≠ bo ∧ k ≠ bn) v out
  b : Below w.heap.size w w1
  lo : w.heap.size ≤ bo
  ln : w.heap.size ≤ bn
  ne : bo ≠ bn

theorem leaf_Lines.zero_iff (v : S54) : leaf_Lines.zero v = true ↔ v.f0 = 0 ∧ v.f1 = 0 ∧ v.f2 = 0 ∧ v.f3 = 0 := by simp [leaf_Lines.zero]
theorem leaf_Lines.infoL : (Try.prog.info? 54).map (fun i => (i.zero, i.size, i.bytes)) = some (some (.agg #[(.int .i64 0), (.int .i64 0), (.int .i64 0), (.int .i64 0)]), 4, 32) := by kernel_rfl

set_option maxHeartbeats 4000000 in
set_option maxRecDepth 100000 in
theorem leaf_Lines.close (w w1 : World) (bo bn : Nat) (out : List S54) (now : S54) (v : Value) (h : leaf_Lines.Holds w w1 bo bn out now v) (hl : out.length < 1000000000) :
    Calls Try.prog 77 #[.pointer (some ⟨bn, 0, none⟩), .pointer (some ⟨bo, 0, none⟩)] w1 fun e w2 => e = .returned (.tuple #[]) ∧ ∃ v', leaf_Lines.Holds w w2 bo bn (leaf_Lines.ended out now) now v' ∧
      w1.heap.size ≤ w2.heap.size ∧ (∀ i, i < w1.heap.size → i ≠ bo → some i ≠ v.ownBlock → w2.heap[i]? = w1.heap[i]?) := by
  have hu54 := Try.underlying54
  obtain ⟨ho, hn, hr, hb, hlo, hln, hne⟩ := h
  have c0 := blk_cell hn 0
  have c1 := blk_cell hn 1
  have c2 := blk_cell hn 2
  have c3 := blk_cell hn 3
  have d0 := blk_cell ho 0
  have dz := blk_frozen ho 0
  simp at c0 c1 c2 c3 d0
  have hbo := blk_lt ho
  have hbn := blk_lt hn
  have hvo : some bo ≠ v.ownBlock := fun e => (hr.1 bo e.symm).1 rfl
  have hvn : some bn ≠ v.ownBlock := fun e => (hr.1 bn e.symm).2 rfl
  have HO := Aside0.mk ho
  have HN := Aside0.mk hn
  have HR := Aside0.mk hr
  have HVO := Aside0.mk hvo
  have HVN := Aside0.mk hvn
  clear ho hn hr hvo hvn
  by_cases hz : leaf_Lines.zero now = true
  · obtain ⟨z0, z1, z2, z3⟩ := (leaf_Lines.zero_iff now).1 hz
    rw [z0] at c0
    rw [z1] at c1
    rw [z2] at c2
    rw [z3] at c3
    have HZ := Aside0.mk hz
    clear z0 z1 z2 z3 hz
    go_enter Try.func77, Try.ntmps77
    go_wp2
    go_end0
    refine ⟨rfl, _, ⟨HO.out, HN.out, ?_, hb, hlo, hln, hne⟩, Nat.le_refl _, fun i _ _ _ => rfl⟩
    unfold leaf_Lines.ended
    rw [if_pos HZ.out]
    exact HR.out
  · have hb4 : (!(now.f0 == 0) || (!(now.f1 == 0) || (!(now.f2 == 0) || !(now.f3 == 0)))) = true := by
      simp only [leaf_Lines.zero_iff] at hz
      simp only [Bool.or_eq_true, Bool.not_eq_true', beq_eq_false_iff_ne]
      omega
    have hb5 : (!now.f0 == 0) = true ∨ (!now.f1 == 0) = true ∨ (!now.f2 == 0) = true ∨ (!now.f3 == 0) = true := by simpa using hb4
    have HZ := Aside0.mk hz
    clear hz
    go_enter Try.func77, Try.ntmps77
    have hz0 : ∀ k : Nat, False → k ≠ bo ∧ k ≠ bn := fun _ h => h.elim
    go_wp2_with (first
      | ((with_reducible refine gate_builtin (b := .append) (xs := #[.tmp 5, .tmp 7]) rfl ?_); at_builtin; refine Kd.R_append k54 (w0 := w) w.heap.size rfl (.tmp 5) (.tmp 7) 46 54 (.agg #[(.int .i64 0), (.int .i64 0), (.int .i64 0), (.int .i64 0)]) 32 rfl Try.underlying46 leaf_Lines.infoL rfl (by decide) (by omega) v out now [.int .i64 now.f0, .int .i64 now.f1, .int .i64 now.f2, .int .i64 now.f3] (fun k => k ≠ bo ∧ k ≠ bn) (fun _ => False) rfl rfl ?aP (fun _ hk => hk.elim) ?aF ?aO ?aB ?aS ?aL ?_; (case aP => exact k54_mkM _ _ _ now); (case aB => exact hb); (case aF => exact (fun k hk => ⟨by omega, by omega⟩)); (case aO => exact HR.out); (case aS => exact hb.size); (case aL => omega); intro v1 w2 hr2 hb2 hg2 hat2; have ho2 := blk_grown HO.out hg2 HVO.out; have hn2 := blk_grown HN.out hg2 HVN.out; have HO2 := Aside0.mk ho2; have HN2 := Aside0.mk hn2; have e0 := blk_cell ho2 0; have ez := blk_frozen ho2 0; simp at e0; clear ho2 hn2; obtain ⟨A1, cc1, rfl⟩ := Kd.R_slice hr2))
    go_end0
    have hs2 := hg2.size
    rw [List.length_append, List.length_singleton] at hr2
    refine ⟨rfl, .slice A1 (out.length + 1) cc1, ⟨?_, ?_, ?_, below_set hb2 (by omega), hlo, hln, hne⟩, ?_, ?_⟩
    · exact blk_set HO2.out 0 _
    · exact blk_far HN2.out (by exact Ne.symm hne) _
    · unfold leaf_Lines.ended
      rw [if_neg HZ.out]
      exact Kd.R_far hr2 (fun k hk => hk.1) _
    · simpa using hs2
    · intro i hi h1 h2
      exact (Below.heap_setCell _ _ _ _ h1).trans (hg2.block i hi h2)

theorem leaf_Lines.Holds.below {w w1 w2 : World} {bo bn : Nat} {out : List S54} {now : S54} {v : Value} (h : leaf_Lines.Holds w w1 bo bn out now v) (hb : Below w1.heap.size w1 w2) : leaf_Lines.Holds w w2 bo bn out now v :=
  ⟨blk_below h.o hb, blk_below h.n hb, Kd.R_below h.r hb, below_step h.b hb, h.lo, h.ln, h.ne⟩
theorem leaf_Lines.Holds.set1 {w w1 : World} {bo bn : Nat} {out : List S54} {now : S54} {v : Value} (h : leaf_Lines.Holds w w1 bo bn out now v) {now' : S54} (j : Nat) (y : Int)
    (hc : (#[.int .i64 now.f0, .int .i64 now.f1, .int .i64 now.f2, .int .i64 now.f3] : Array Value).setIfInBounds j (.int .i64 y) = #[.int .i64 now'.f0, .int .i64 now'.f1, .int .i64 now'.f2, .int .i64 now'.f3]) :
    leaf_Lines.Holds w (w1.setCell ⟨bn, j, none⟩ (.int .i64 y)) bo bn out now' v :=
  ⟨blk_far h.o h.ne _, by rw [← hc]; exact blk_set h.n j _, Kd.R_far h.r (fun k hk => hk.2) _, below_set h.b h.ln, h.lo, h.ln, h.ne⟩
theorem leaf_Lines.Holds.set3 {w w1 : World} {bo bn : Nat} {out : List S54} {now : S54} {v : Value} (h : leaf_Lines.Holds w w1 bo bn out now v) (y1 y2 y3 : Int) :
    leaf_Lines.Holds w (((w1.setCell ⟨bn, 1, none⟩ (.int .i64 y1)).setCell ⟨bn, 2, none⟩ (.int .i64 y2)).setCell ⟨bn, 3, none⟩ (.int .i64 y3)).drew bo bn out ⟨now.f0, y1, y2, y3⟩ v := by
  have h1 := h.set1 (now' := ⟨now.f0, y1, now.f2, now.f3⟩) 1 y1 rfl
  have h2 := h1.set1 (now' := ⟨now.f0, y1, y2, now.f3⟩) 2 y2 rfl
  have h3 := h2.set1 (now' := ⟨now.f0, y1, y2, y3⟩) 3 y3 rfl
  exact ⟨h3.o, h3.n, h3.r, below_drew h3.b, h3.lo, h3.ln, h3.ne⟩
theorem leaf_Lines.Holds.set4 {w w1 : World} {bo bn : Nat} {out : List S54} {now : S54} {v : Value} (h : leaf_Lines.Holds w w1 bo bn out now v) (y0 y1 y2 y3 : Int) :
    leaf_Lines.Holds w ((((w1.setCell ⟨bn, 0, none⟩ (.int .i64 y0)).setCell ⟨bn, 1, none⟩ (.int .i64 y1)).setCell ⟨bn, 2, none⟩ (.int .i64 y2)).setCell ⟨bn, 3, none⟩ (.int .i64 y3)) bo bn out ⟨y0, y1, y2, y3⟩ v :=
  (((h.set1 (now' := ⟨y0, now.f1, now.f2, now.f3⟩) 0 y0 rfl).set1 (now' := ⟨y0, y1, now.f2, now.f3⟩) 1 y1 rfl).set1 (now' := ⟨y0, y1, y2, now.f3⟩) 2 y2 rfl).set1 (now' := ⟨y0, y1, y2, y3⟩) 3 y3 rfl
theorem leaf_Lines.Holds.new {w w1 : World} {bo bn : Nat} {out : List S54} {now : S54} {v : Value} (h : leaf_Lines.Holds w w1 bo bn out now v) : some w1.heap.size ≠ v.ownBlock := fun e => by
  have := (Kd.R_bound h.r).1 _ e.symm
  omega
theorem leaf_Lines.Holds.cells {w w1 : World} {bo bn : Nat} {out : List S54} {now : S54} {v : Value} (h : leaf_Lines.Holds w w1 bo bn out now v) :
    w1.cell? ⟨bn, 0, none⟩ = some (.int .i64 now.f0) ∧ w1.cell? ⟨bn, 1, none⟩ = some (.int .i64 now.f1) ∧ w1.cell? ⟨bn, 2, none⟩ = some (.int .i64 now.f2) ∧ w1.cell? ⟨bn, 3, none⟩ = some (.int .i64 now.f3) ∧ bn < w1.heap.size ∧ bo < w1.heap.size ∧ w1.cell? ⟨bo, 0, none⟩ = some v := by
  have c0 := blk_cell h.n 0
  have c1 := blk_cell h.n 1
  have c2 := blk_cell h.n 2
  have c3 := blk_cell h.n 3
  have d0 := blk_cell h.o 0
  simp at c0 c1 c2 c3 d0
  exact ⟨c0, c1, c2, c3, blk_lt h.n, blk_lt h.o, d0⟩

set_option maxHeartbeats 8000000 in
set_option maxRecDepth 100000 in
theorem leaf_Lines.calls (k : Nat) (A0 : Option Addr) (c0 : Nat) (l0 : List (List S59)) (a1 : Int) (r1 : List S54) (r2 : Int) (w : World) (hr0 : Kd.C (Kd.slice 59 k59) w A0 l0.length l0) (hc0 : l0.length ≤ c0) (h : leaf_Lines.f k l0 a1 = some (r1, r2)) :
    Calls Try.prog 38 #[.slice A0 l0.length c0, .int .i64 a1] w fun e w' => ∃ v0_ : Value, e = .returned (.tuple #[v0_, .int .i64 r2]) ∧ Kd.R k54 54 w' w.heap.size (fun _ => True) v0_ r1 ∧ Below w.heap.size w w' := by
  have hu54 := Try.underlying54
  have HR0 := Aside0.mk hr0
  have HC0 := Aside0.mk hc0
  clear hr0 hc0
  obtain ⟨⟨wide, e⟩, hlook, h⟩ := Option.bind_eq_some_iff.1 h
  have HLOOK := Aside0.mk hlook
  have H' := Aside0.mk h
  clear hlook h
  by_cases he : e = 0
  · have H := H'.out
    rw [if_pos he] at H
    subst he
    have HL := Aside0.mk H
    clear H' H
    go_enter Try.func38, Try.ntmps38
    go_wp2_with (first
      | (go_at_call 74; refine (leaf_look.calls k _ _ l0 wide _ _ HR0.out HC0.out HLOOK.out).mono ?_; rintro e wl ⟨rfl, hb⟩; have HB := Aside0.mk hb; have hbs := hb.size; clear hb))
    go_loopg [25] k (fun kq v25 w' => ∃ (i : Int) (out : List S54) (now : S54) (v : Value), v25 = .int .i64 i ∧ Aside0 (leaf_Lines.l0 kq l0 a1 i out now = some (r1, r2)) ∧ Aside0 (kq ≤ k) ∧ leaf_Lines.Holds w w' wl.heap.size (wl.heap.size + 1) out now v)
    case atStart =>
      refine ⟨0, [], ⟨0, 0, 0, 0⟩, .slice none 0 0, rfl, HL, ⟨Nat.le_refl _⟩, ⟨?_, ?_, Kd.R_nil _ _ _ _ _, below_alloc (below_alloc HB.out _) _, hbs, by omega, by omega⟩⟩
      · exact blk_alloc (blk_new wl _) _
      · have := blk_new (wl.alloc (.cells #[.slice none 0 0] 46)) (.cells #[.int .i64 0, .int .i64 0, .int .i64 0, .int .i64 0] 54)
        simpa using this
    case round =>
      clear HL
      obtain ⟨i, out, now, v, rfl, HA, HK1, HH⟩ := hrel
      cases gk with
      | zero => exact absurd HA.out (by simp [leaf_Lines.l0])
      | succ k1 =>
        have H := HA.out
        clear HA
        simp only [leaf_Lines.l0] at H
        by_cases q0 : out.length < 1000000000
        · rw [if_pos q0] at H
          by_cases q1 : i < (l0.length : Int)
          · rw [if_pos q1] at H
            by_cases q2 : 0 ≤ i
            · rw [if_pos q2] at H
              obtain ⟨⟨x1, x2, x3, x4⟩, hword, H⟩ := Option.bind_eq_some_iff.1 H
              have HW := Aside0.mk hword
              have HN := Aside0.mk H
              clear hword H h
              obtain ⟨ad, A1, cc1, e1, hx, hl1, hK1⟩ := at_L2 HR0.out i q2 q1
              cases e1
              replace hx := (HH.b.cell (World.block_lt_of_cell? w _ hx)).trans hx
              have HR1 := Aside0.mk (Kd.C_below hK1 HH.b)
              have HC1 := Aside0.mk hl1
              clear hK1 hl1
              have q1b : decide (i < (l0.length : Int)) = true := decide_eq_true q1
              have q2b : decide (0 ≤ i) = true := decide_eq_true q2
              replace q1 := eq_true q1
              replace q2 := eq_true q2
              have HHA := Aside0.mk HH
              clear HH
              have join : ¬ (now.f1 > 0 ∧ wrap64 (now.f2 + x3) ≤ a1) → leaf_Lines.l0 k1 l0 a1 (wrap64 (i + 1)) (leaf_Lines.ended out now) ⟨x1, x2, x3, x4⟩ = some (r1, r2) := fun hn => by
                have := HN.out
                rw [if_neg hn] at this
                exact this
              by_cases p1 : now.f1 > 0
              · have p1b : decide (0 < now.f1) = true := decide_eq_true p1
                by_cases p2 : wrap64 (now.f2 + x3) ≤ a1
                · have p2b : decide (wrap64 (now.f2 + x3) ≤ a1) = true := decide_eq_true p2
                  have H' : Aside0 (leaf_Lines.l0 k1 l0 a1 (wrap64 (i + 1)) out ⟨now.f0, x2, wrap64 (now.f2 + x3), mx now.f3 x4⟩ = some (r1, r2)) := ⟨by
                    have := HN.out
                    rw [if_pos ⟨p1, p2⟩] at this
                    exact this⟩
                  clear p1 p2 join
                  go_wp2_with (first
                    | (go_at_call 75; refine (leaf_word.calls k1 _ _ (rd_L2 l0 i) i x1 x2 x3 x4 _ HR1.out HC1.out HW.out).mono ?_; rintro e w5 ⟨rfl, hb5⟩; have HH5 := HHA.out.below hb5; have HH5A := Aside0.mk HH5; obtain ⟨b0, b1, b2, b3, bl, bl2, bd⟩ := HH5.cells; clear HH5 hb5))
                  have HH6 := HH5A.out.below (below_alloc (Below.refl _ _) (.cells #[.int .i64 x1, .int .i64 x2, .int .i64 x3, .int .i64 x4] 54))
                  have hbx := blk_new w5 (.cells #[.int .i64 x1, .int .i64 x2, .int .i64 x3, .int .i64 x4] 54)
                  have hne1 : w5.heap.size ≠ wl.heap.size + 1 := by omega
                  clear b0 b1 b2 b3 bd
                  generalize w5.alloc (.cells #[.int .i64 x1, .int .i64 x2, .int .i64 x3, .int .i64 x4] 54) = W6 at HH6 hbx ⊢
                  generalize w5.heap.size = bx at hbx hne1 bl bl2 ⊢
                  obtain ⟨b0, b1, b2, b3, bl6, bl62, bd⟩ := HH6.cells
                  have x0 := blk_cell hbx 0
                  have xa1 := blk_cell hbx 1
                  have xa2 := blk_cell hbx 2
                  have xa3 := blk_cell hbx 3
                  have z1 := blk_frozen HH6.n 1
                  have z2 := blk_frozen HH6.n 2
                  have z3 := blk_frozen HH6.n 3
                  simp at x0 xa1 xa2 xa3
                  have HH6A := Aside0.mk HH6
                  have HBX := Aside0.mk hbx
                  clear HH6 hbx
                  go_region
                  go_wp2
                  all_goals
                    first
                    | (have hmx : mx now.f3 x4 = x4 := by unfold mx; rw [if_pos (by first | assumption | omega)])
                    | (have hmx : mx now.f3 x4 = now.f3 := by unfold mx; rw [if_neg (by first | assumption | omega)])
                    rw [hmx] at H'
                    clear hmx
                    go_roundg k1
                    case measure => have := HK1.out; omega
                    case rel => exact ⟨wrap64 (i + 1), out, ⟨now.f0, x2, wrap64 (now.f2 + x3), _⟩, v, rfl, H', ⟨by have := HK1.out; omega⟩, HH6A.out.set3 _ _ _⟩
                · have p2b : decide (wrap64 (now.f2 + x3) ≤ a1) = false := decide_eq_false p2
                  have H' := Aside0.mk (join (fun h => p2 h.2))
                  have HQ := Aside0.mk q0
                  clear p1 p2 join q0
                  go_wp2_with (first
                    | (go_at_call 75; refine (leaf_word.calls k1 _ _ (rd_L2 l0 i) i x1 x2 x3 x4 _ HR1.out HC1.out HW.out).mono ?_; rintro e w5 ⟨rfl, hb5⟩; have HH5 := HHA.out.below hb5; have HH5A := Aside0.mk HH5; obtain ⟨b0, b1, b2, b3, bl, bl2, bd⟩ := HH5.cells; clear HH5 hb5)
                    | (go_at_call 77; have HH6 := HH5A.out.below (below_alloc (Below.refl _ _) (.cells #[.int .i64 x1, .int .i64 x2, .int .i64 x3, .int .i64 x4] 54)); have HH6A := Aside0.mk HH6; clear HH6; refine (leaf_Lines.close w _ _ _ out now v HH6A.out HQ.out).mono ?_; rintro e w6 ⟨rfl, v6, h6, hs6, hk6⟩; have hbx := (hk6 w5.heap.size (by simp) (by omega) HH5A.out.new).trans (blk_new w5 _); have y0 := blk_cell hbx 0; have y1 := blk_cell hbx 1; have y2 := blk_cell hbx 2; have y3 := blk_cell hbx 3; have z0 := blk_frozen h6.n 0; have z1 := blk_frozen h6.n 1; have z2 := blk_frozen h6.n 2; have z3 := blk_frozen h6.n 3; obtain ⟨d0, d1, d2, d3, dl, dl2, dd⟩ := h6.cells; simp at y0 y1 y2 y3; have H6A := Aside0.mk h6; clear hbx hk6 h6 hs6))
                  go_roundg k1
                  case measure => have := HK1.out; omega
                  case rel => exact ⟨wrap64 (i + 1), leaf_Lines.ended out now, ⟨x1, x2, x3, x4⟩, v6, rfl, H', ⟨by have := HK1.out; omega⟩, H6A.out.set4 _ _ _ _⟩
              · have p1b : decide (0 < now.f1) = false := decide_eq_false p1
                have H' := Aside0.mk (join (fun h => p1 h.1))
                have HQ := Aside0.mk q0
                clear p1 join q0
                go_wp2_with (first
                  | (go_at_call 75; refine (leaf_word.calls k1 _ _ (rd_L2 l0 i) i x1 x2 x3 x4 _ HR1.out HC1.out HW.out).mono ?_; rintro e w5 ⟨rfl, hb5⟩; have HH5 := HHA.out.below hb5; have HH5A := Aside0.mk HH5; obtain ⟨b0, b1, b2, b3, bl, bl2, bd⟩ := HH5.cells; clear HH5 hb5)
                  | (go_at_call 77; have HH6 := HH5A.out.below (below_alloc (Below.refl _ _) (.cells #[.int .i64 x1, .int .i64 x2, .int .i64 x3, .int .i64 x4] 54)); have HH6A := Aside0.mk HH6; clear HH6; refine (leaf_Lines.close w _ _ _ out now v HH6A.out HQ.out).mono ?_; rintro e w6 ⟨rfl, v6, h6, hs6, hk6⟩; have hbx := (hk6 w5.heap.size (by simp) (by omega) HH5A.out.new).trans (blk_new w5 _); have y0 := blk_cell hbx 0; have y1 := blk_cell hbx 1; have y2 := blk_cell hbx 2; have y3 := blk_cell hbx 3; have z0 := blk_frozen h6.n 0; have z1 := blk_frozen h6.n 1; have z2 := blk_frozen h6.n 2; have z3 := blk_frozen h6.n 3; obtain ⟨d0, d1, d2, d3, dl, dl2, dd⟩ := h6.cells; simp at y0 y1 y2 y3; have H6A := Aside0.mk h6; clear hbx hk6 h6 hs6))
                go_roundg k1
                case measure => have := HK1.out; omega
                case rel => exact ⟨wrap64 (i + 1), leaf_Lines.ended out now, ⟨x1, x2, x3, x4⟩, v6, rfl, H', ⟨by have := HK1.out; omega⟩, H6A.out.set4 _ _ _ _⟩
            · rw [if_neg q2] at H
              cases H
          · rw [if_neg q1] at H
            injection H with H
            injection H with H1 H2
            have q1b : decide (i < (l0.length : Int)) = false := decide_eq_false q1
            have HE := Aside0.mk H1
            have HE2 := Aside0.mk H2
            have HHA := Aside0.mk HH
            have HQ := Aside0.mk q0
            clear q1 H1 H2 HH q0
            go_wp2_with (first
              | (go_at_call 77; refine (leaf_Lines.close w _ _ _ out now v HHA.out HQ.out).mono ?_; rintro e w6 ⟨rfl, v6, h6, hs6, hk6⟩; have hd6 := h6.cells.2.2.2.2.2.2))
            go_ret2
            have hr := h6.r
            have hb := h6.b
            rw [HE.out] at hr
            obtain rfl := HE2.out
            exact ⟨v6, rfl, Kd.R_mono hr (fun _ _ => trivial), hb⟩
        · rw [if_neg q0] at H
          cases H
  · have heb : (e != 0) = true := bne_iff_ne.mpr he
    have H := H'.out
    rw [if_neg he] at H
    injection H with H
    injection H with H1 H2
    subst H1 H2
    clear H'
    have HE := Aside0.mk he
    clear he
    go_enter Try.func38, Try.ntmps38
    go_wp2_with (first
      | (go_at_call 74; refine (leaf_look.calls k _ _ l0 wide _ _ HR0.out HC0.out HLOOK.out).mono ?_; rintro e w' ⟨rfl, hb⟩))
    go_ret2
    exact ⟨_, rfl, Kd.R_nil _ _ _ _ _, hb⟩

end Go.Proofs.Ytbjjmilbilapnaa.PLf
