/- LineReadsSaid, part 11 of 13: contracts of the program's functions, the words that they use, and the plain laws on what they compute. Conditions: none beyond what the statements say. -/
import Derived.Test.YtofdhdafabmhmaaKLr0
import Derived.Test.YtofdhdafabmhmaaKLr1
import Derived.Test.YtofdhdafabmhmaaKLr4
import Derived.Laws.CopyOwn
import Derived.Shelf.Spec.SlicesInsert
import Derived.Test.YtofdhdafabmhmaaKLr9
import Derived.Test.YtofdhdafabmhmaaKLr2
import Derived.Test.YtofdhdafabmhmaaKLr7
import Derived.Test.YtofdhdafabmhmaaKLr3
import Derived.Test.YtofdhdafabmhmaaKLr8
set_option linter.unusedVariables false
set_option linter.unusedSimpArgs false
section
namespace Go.Proofs.Ytofdhdafabmhmaa.Giv
open Go.RowKit Go.Proofs.YtofdhdafabmhmaaW.PrintWords Go.Proofs.YtofdhdafabmhmaaW.PrintLast Go.Proofs.YtofdhdafabmhmaaW.PrintMore Go.Proofs.Ytofdhdafabmhmaa.PLr
open Go.Proofs.Ytofdhdafabmhmaa.Opn Go.BigFrame
def line_Four.l0 : Nat → List S26 → Option (List S26)
  | 0, _ => none
  | k + 1, x => if (x.length : Int) < 4 then (line_other.f (rd_T26 x (if x.length = 3 then 1 else 0)).f0 (rd_T26 x (if x.length = 3 then 1 else 0)).f1 (rd_T26 x (if x.length = 3 then 1 else 0)).f2).bind fun t => line_Four.l0 k (x ++ [⟨t.1, t.2.1, t.2.2⟩]) else some x
def line_Four.f (k : Nat) (l0 : List S43) (a1 : Int) : Option (Int × Int × ByteArray × Int × Int × ByteArray × Int × Int × ByteArray × Int × Int × ByteArray × Int × Int) :=
  (line_lines.f k l0 a1 4).bind fun r => if r.2.2 = 0 then if 0 < r.1.length then (line_Four.l0 k r.1).bind fun x => if x.length = 4 then some ((rd_T26 x 0).f0, (rd_T26 x 0).f1, (rd_T26 x 0).f2, (rd_T26 x 1).f0, (rd_T26 x 1).f1, (rd_T26 x 1).f2, (rd_T26 x 2).f0, (rd_T26 x 2).f1, (rd_T26 x 2).f2, (rd_T26 x 3).f0, (rd_T26 x 3).f1, (rd_T26 x 3).f2, r.2.1, 0) else none else none
    else some (0, 0, ⟨#[]⟩, 0, 0, ⟨#[]⟩, 0, 0, ⟨#[]⟩, 0, 0, ⟨#[]⟩, r.2.1, r.2.2)
theorem line_Four.mono_l : ∀ k x, LeO (line_Four.l0 k x) (line_Four.l0 (k + 1) x)
  | 0, x => fun r h => by simp [line_Four.l0] at h
  | k + 1, x => by
    unfold line_Four.l0; exact LeO.ite (LeO.bind (LeO.refl _) (fun t => line_Four.mono_l k _)) (LeO.refl _)
theorem line_Four.mono : ∀ l0 a1 k, LeO (line_Four.f k l0 a1) (line_Four.f (k + 1) l0 a1) := by
  intro l0 a1 k; unfold line_Four.f; exact LeO.bind (line_lines.mono _ _ _ _) (fun r => LeO.ite (LeO.ite (LeO.bind (line_Four.mono_l _ _) (fun x => LeO.refl _)) (LeO.refl _)) (LeO.refl _))
namespace line_Four
structure Sp (w w1 : World) (b4 : Nat) (cs : Array Value) : Prop where
  s : w1.heap[b4]? = some (.cells cs 36 (0, 0))
  b : Below w.heap.size w w1
  o : w.heap.size ≤ b4
def Z : Array Value := #[.int .i64 0, .int .i64 0, .string (⟨#[]⟩ : ByteArray), .int .i64 0, .int .i64 0, .string (⟨#[]⟩ : ByteArray), .int .i64 0, .int .i64 0, .string (⟨#[]⟩ : ByteArray), .int .i64 0, .int .i64 0, .string (⟨#[]⟩ : ByteArray)]
section
variable {w w1 w2 : World} {b4 : Nat} {cs : Array Value} {v_ v0 v1 v2 v3 v4 v5 v6 v7 v8 v9 v10 v11 : Value}
theorem Sp.below (h : Sp w w1 b4 cs) (hb : Below w1.heap.size w1 w2) : Sp w w2 b4 cs := ⟨blk_below h.s hb, below_step h.b hb, h.o⟩
theorem Sp.drewN (h : Sp w w1 b4 cs) (i : Nat) : Sp w (w1.drewN i) b4 cs := h.below (pw_below_drewN (Below.refl _ _) i)
theorem Sp.drew (h : Sp w w1 b4 cs) : Sp w w1.drew b4 cs := h.below (below_drew (Below.refl _ _))
theorem Sp.alloc (h : Sp w w1 b4 cs) (o : Obj) : Sp w (w1.alloc o) b4 cs := h.below (below_alloc (Below.refl _ _) _)
theorem Sp.grown (h : Sp w w1 b4 cs) {row : Option Nat} (hg : w1.grownBy w2 row) (n0 : some b4 ≠ row) (hb : Below w.heap.size w w2) : Sp w w2 b4 cs := ⟨blk_grown h.s hg n0, hb, h.o⟩
set_option maxHeartbeats 4000000 in
theorem Sp.sets (h : Sp w w1 b4 #[v0, v1, v2, v3, v4, v5, v6, v7, v8, v9, v10, v11]) (u0 u1 u2 u3 u4 u5 u6 u7 u8 u9 u10 u11 : Value) : Sp w ((((((((((((w1.setCell ⟨b4, 0, none⟩ u0).setCell ⟨b4, 1, none⟩ u1).setCell ⟨b4, 2, none⟩ u2).setCell ⟨b4, 3, none⟩ u3).setCell ⟨b4, 4, none⟩ u4).setCell ⟨b4, 5, none⟩ u5).setCell ⟨b4, 6, none⟩ u6).setCell ⟨b4, 7, none⟩ u7).setCell ⟨b4, 8, none⟩ u8).setCell ⟨b4, 9, none⟩ u9).setCell ⟨b4, 10, none⟩ u10).setCell ⟨b4, 11, none⟩ u11) b4 #[u0, u1, u2, u3, u4, u5, u6, u7, u8, u9, u10, u11] := by
  have p0 := blk_put (cs := #[v0, v1, v2, v3, v4, v5, v6, v7, v8, v9, v10, v11]) (cs' := #[u0, v1, v2, v3, v4, v5, v6, v7, v8, v9, v10, v11]) h.s 0 u0 rfl; have p1 := blk_put (cs := #[u0, v1, v2, v3, v4, v5, v6, v7, v8, v9, v10, v11]) (cs' := #[u0, u1, v2, v3, v4, v5, v6, v7, v8, v9, v10, v11]) p0 1 u1 rfl; have p2 := blk_put (cs := #[u0, u1, v2, v3, v4, v5, v6, v7, v8, v9, v10, v11]) (cs' := #[u0, u1, u2, v3, v4, v5, v6, v7, v8, v9, v10, v11]) p1 2 u2 rfl; have p3 := blk_put (cs := #[u0, u1, u2, v3, v4, v5, v6, v7, v8, v9, v10, v11]) (cs' := #[u0, u1, u2, u3, v4, v5, v6, v7, v8, v9, v10, v11]) p2 3 u3 rfl; have p4 := blk_put (cs := #[u0, u1, u2, u3, v4, v5, v6, v7, v8, v9, v10, v11]) (cs' := #[u0, u1, u2, u3, u4, v5, v6, v7, v8, v9, v10, v11]) p3 4 u4 rfl; have p5 := blk_put (cs := #[u0, u1, u2, u3, u4, v5, v6, v7, v8, v9, v10, v11]) (cs' := #[u0, u1, u2, u3, u4, u5, v6, v7, v8, v9, v10, v11]) p4 5 u5 rfl; have p6 := blk_put (cs := #[u0, u1, u2, u3, u4, u5, v6, v7, v8, v9, v10, v11]) (cs' := #[u0, u1, u2, u3, u4, u5, u6, v7, v8, v9, v10, v11]) p5 6 u6 rfl; have p7 := blk_put (cs := #[u0, u1, u2, u3, u4, u5, u6, v7, v8, v9, v10, v11]) (cs' := #[u0, u1, u2, u3, u4, u5, u6, u7, v8, v9, v10, v11]) p6 7 u7 rfl; have p8 := blk_put (cs := #[u0, u1, u2, u3, u4, u5, u6, u7, v8, v9, v10, v11]) (cs' := #[u0, u1, u2, u3, u4, u5, u6, u7, u8, v9, v10, v11]) p7 8 u8 rfl; have p9 := blk_put (cs := #[u0, u1, u2, u3, u4, u5, u6, u7, u8, v9, v10, v11]) (cs' := #[u0, u1, u2, u3, u4, u5, u6, u7, u8, u9, v10, v11]) p8 9 u9 rfl; have p10 := blk_put (cs := #[u0, u1, u2, u3, u4, u5, u6, u7, u8, u9, v10, v11]) (cs' := #[u0, u1, u2, u3, u4, u5, u6, u7, u8, u9, u10, v11]) p9 10 u10 rfl; have p11 := blk_put (cs := #[u0, u1, u2, u3, u4, u5, u6, u7, u8, u9, u10, v11]) (cs' := #[u0, u1, u2, u3, u4, u5, u6, u7, u8, u9, u10, u11]) p10 11 u11 rfl; have q0 := below_set (j := 0) (v := u0) h.b h.o; have q1 := below_set (j := 1) (v := u1) q0 h.o; have q2 := below_set (j := 2) (v := u2) q1 h.o; have q3 := below_set (j := 3) (v := u3) q2 h.o; have q4 := below_set (j := 4) (v := u4) q3 h.o; have q5 := below_set (j := 5) (v := u5) q4 h.o; have q6 := below_set (j := 6) (v := u6) q5 h.o; have q7 := below_set (j := 7) (v := u7) q6 h.o; have q8 := below_set (j := 8) (v := u8) q7 h.o; have q9 := below_set (j := 9) (v := u9) q8 h.o; have q10 := below_set (j := 10) (v := u10) q9 h.o; have q11 := below_set (j := 11) (v := u11) q10 h.o; exact ⟨p11, q11, h.o⟩
theorem Sp.c (h : Sp w w1 b4 #[v0, v1, v2, v3, v4, v5, v6, v7, v8, v9, v10, v11]) : w1.cell? ⟨b4, 0, none⟩ = some v0 ∧ w1.cell? ⟨b4, 1, none⟩ = some v1 ∧ w1.cell? ⟨b4, 2, none⟩ = some v2 ∧ w1.cell? ⟨b4, 3, none⟩ = some v3 ∧ w1.cell? ⟨b4, 4, none⟩ = some v4 ∧ w1.cell? ⟨b4, 5, none⟩ = some v5 ∧ w1.cell? ⟨b4, 6, none⟩ = some v6 ∧ w1.cell? ⟨b4, 7, none⟩ = some v7 ∧ w1.cell? ⟨b4, 8, none⟩ = some v8 ∧ w1.cell? ⟨b4, 9, none⟩ = some v9 ∧ w1.cell? ⟨b4, 10, none⟩ = some v10 ∧ w1.cell? ⟨b4, 11, none⟩ = some v11 := ⟨(blk_cell h.s 0).trans rfl, (blk_cell h.s 1).trans rfl, (blk_cell h.s 2).trans rfl, (blk_cell h.s 3).trans rfl, (blk_cell h.s 4).trans rfl, (blk_cell h.s 5).trans rfl, (blk_cell h.s 6).trans rfl, (blk_cell h.s 7).trans rfl, (blk_cell h.s 8).trans rfl, (blk_cell h.s 9).trans rfl, (blk_cell h.s 10).trans rfl, (blk_cell h.s 11).trans rfl⟩
theorem Sp.f (h : Sp w w1 b4 cs) : w1.frozen? ⟨b4, 0, none⟩ = false ∧ w1.frozen? ⟨b4, 1, none⟩ = false ∧ w1.frozen? ⟨b4, 2, none⟩ = false ∧ w1.frozen? ⟨b4, 3, none⟩ = false ∧ w1.frozen? ⟨b4, 4, none⟩ = false ∧ w1.frozen? ⟨b4, 5, none⟩ = false ∧ w1.frozen? ⟨b4, 6, none⟩ = false ∧ w1.frozen? ⟨b4, 7, none⟩ = false ∧ w1.frozen? ⟨b4, 8, none⟩ = false ∧ w1.frozen? ⟨b4, 9, none⟩ = false ∧ w1.frozen? ⟨b4, 10, none⟩ = false ∧ w1.frozen? ⟨b4, 11, none⟩ = false := ⟨blk_frozen h.s 0, blk_frozen h.s 1, blk_frozen h.s 2, blk_frozen h.s 3, blk_frozen h.s 4, blk_frozen h.s 5, blk_frozen h.s 6, blk_frozen h.s 7, blk_frozen h.s 8, blk_frozen h.s 9, blk_frozen h.s 10, blk_frozen h.s 11⟩
def vals (x : List S26) : List Value := [(.int .i64 (rd_T26 x 0).f0), (.int .i64 (rd_T26 x 0).f1), (.string (rd_T26 x 0).f2), (.int .i64 (rd_T26 x 1).f0), (.int .i64 (rd_T26 x 1).f1), (.string (rd_T26 x 1).f2), (.int .i64 (rd_T26 x 2).f0), (.int .i64 (rd_T26 x 2).f1), (.string (rd_T26 x 2).f2), (.int .i64 (rd_T26 x 3).f0), (.int .i64 (rd_T26 x 3).f1), (.string (rd_T26 x 3).f2)]
theorem one (x : List S26) : ∀ v ∈ vals x, v.oneCell' = true := by
  intro v hv; simp only [vals, List.mem_cons, List.not_mem_nil, or_false] at hv; rcases hv with rfl | rfl | rfl | rfl | rfl | rfl | rfl | rfl | rfl | rfl | rfl | rfl <;> rfl
theorem src {w : World} {ad : Addr} {x : List S26} (h : Kd.C k26 w (some ad) x.length x) (h4 : x.length = 4) : ∀ (j : Nat) (v : Value), (vals x)[j]? = some v → w.cell? (ad.add j) = some v := by
  obtain ⟨_, e0, a0, a1, a2⟩ := at_T26 h 0 (by omega) (by omega); cases e0
  obtain ⟨_, e0, b0, b1, b2⟩ := at_T26 h 1 (by omega) (by omega); cases e0
  obtain ⟨_, e0, c0, c1, c2⟩ := at_T26 h 2 (by omega) (by omega); cases e0
  obtain ⟨_, e0, d0, d1, d2⟩ := at_T26 h 3 (by omega) (by omega); cases e0
  intro j v hj; rcases j with _ | _ | _ | _ | _ | _ | _ | _ | _ | _ | _ | _ | j
  · cases hj; exact a0
  · cases hj; exact a1
  · cases hj; exact a2
  · cases hj; exact b0
  · cases hj; exact b1
  · cases hj; exact b2
  · cases hj; exact c0
  · cases hj; exact c1
  · cases hj; exact c2
  · cases hj; exact d0
  · cases hj; exact d1
  · cases hj; exact d2
  cases hj
theorem Sp.copied (h : Sp w w1 b4 Z) (x : List S26) : Sp w (w1.setRow b4 (Z.toList.take 0 ++ vals x ++ Z.toList.drop (0 + (vals x).length)).toArray) b4 (vals x).toArray :=
  ⟨setRow_heap w1 b4 _ _ _ _ h.s, below_setRow h.b h.o _, h.o⟩
theorem Sp.cv {x : List S26} (h : Sp w w1 b4 (vals x).toArray) : w1.cell? ⟨b4, 0, none⟩ = some (.int .i64 (rd_T26 x 0).f0) ∧ w1.cell? ⟨b4, 1, none⟩ = some (.int .i64 (rd_T26 x 0).f1) ∧ w1.cell? ⟨b4, 2, none⟩ = some (.string (rd_T26 x 0).f2) ∧ w1.cell? ⟨b4, 3, none⟩ = some (.int .i64 (rd_T26 x 1).f0) ∧ w1.cell? ⟨b4, 4, none⟩ = some (.int .i64 (rd_T26 x 1).f1) ∧ w1.cell? ⟨b4, 5, none⟩ = some (.string (rd_T26 x 1).f2) ∧ w1.cell? ⟨b4, 6, none⟩ = some (.int .i64 (rd_T26 x 2).f0) ∧ w1.cell? ⟨b4, 7, none⟩ = some (.int .i64 (rd_T26 x 2).f1) ∧ w1.cell? ⟨b4, 8, none⟩ = some (.string (rd_T26 x 2).f2) ∧ w1.cell? ⟨b4, 9, none⟩ = some (.int .i64 (rd_T26 x 3).f0) ∧ w1.cell? ⟨b4, 10, none⟩ = some (.int .i64 (rd_T26 x 3).f1) ∧ w1.cell? ⟨b4, 11, none⟩ = some (.string (rd_T26 x 3).f2) := ⟨(blk_cell h.s 0).trans rfl, (blk_cell h.s 1).trans rfl, (blk_cell h.s 2).trans rfl, (blk_cell h.s 3).trans rfl, (blk_cell h.s 4).trans rfl, (blk_cell h.s 5).trans rfl, (blk_cell h.s 6).trans rfl, (blk_cell h.s 7).trans rfl, (blk_cell h.s 8).trans rfl, (blk_cell h.s 9).trans rfl, (blk_cell h.s 10).trans rfl, (blk_cell h.s 11).trans rfl⟩
def Row (w w1 : World) (b4 : Nat) (v : Value) (x : List S26) : Prop := Kd.R k26 26 w1 w.heap.size (fun k => k ≠ b4) v x
theorem Row.sets {v : Value} {x : List S26} (h : Row w w1 b4 v x) (u0 u1 u2 u3 u4 u5 u6 u7 u8 u9 u10 u11 : Value) : Row w ((((((((((((w1.setCell ⟨b4, 0, none⟩ u0).setCell ⟨b4, 1, none⟩ u1).setCell ⟨b4, 2, none⟩ u2).setCell ⟨b4, 3, none⟩ u3).setCell ⟨b4, 4, none⟩ u4).setCell ⟨b4, 5, none⟩ u5).setCell ⟨b4, 6, none⟩ u6).setCell ⟨b4, 7, none⟩ u7).setCell ⟨b4, 8, none⟩ u8).setCell ⟨b4, 9, none⟩ u9).setCell ⟨b4, 10, none⟩ u10).setCell ⟨b4, 11, none⟩ u11) b4 v x := by
  have h0 := Kd.R_far (p := ⟨b4, 0, none⟩) h (fun _ hk => hk) u0; have h1 := Kd.R_far (p := ⟨b4, 1, none⟩) h0 (fun _ hk => hk) u1; have h2 := Kd.R_far (p := ⟨b4, 2, none⟩) h1 (fun _ hk => hk) u2; have h3 := Kd.R_far (p := ⟨b4, 3, none⟩) h2 (fun _ hk => hk) u3; have h4 := Kd.R_far (p := ⟨b4, 4, none⟩) h3 (fun _ hk => hk) u4; have h5 := Kd.R_far (p := ⟨b4, 5, none⟩) h4 (fun _ hk => hk) u5; have h6 := Kd.R_far (p := ⟨b4, 6, none⟩) h5 (fun _ hk => hk) u6; have h7 := Kd.R_far (p := ⟨b4, 7, none⟩) h6 (fun _ hk => hk) u7; have h8 := Kd.R_far (p := ⟨b4, 8, none⟩) h7 (fun _ hk => hk) u8; have h9 := Kd.R_far (p := ⟨b4, 9, none⟩) h8 (fun _ hk => hk) u9; have h10 := Kd.R_far (p := ⟨b4, 10, none⟩) h9 (fun _ hk => hk) u10; have h11 := Kd.R_far (p := ⟨b4, 11, none⟩) h10 (fun _ hk => hk) u11; exact h11
end
theorem at_ {P : Program} {id : Nat} {ops : Array Oper} {b : Bool} {Q : Exit → Act → World → Prop} {a : Act} {W : World} (h : ∀ w', w' = W → (Code.region id ops b).wp P Q a w') : (Code.region id ops b).wp P Q a W := h W rfl
set_option maxHeartbeats 16000000 in
set_option maxRecDepth 100000 in
theorem calls (k : Nat) (A0 : Option Addr) (c0 : Nat) (l0 : List S43) (a1 r1 r2 : Int) (r3 : ByteArray) (r4 r5 : Int) (r6 : ByteArray) (r7 r8 : Int) (r9 : ByteArray) (r10 r11 : Int) (r12 : ByteArray) (r13 r14 : Int) (w : World) (hr0 : Kd.C k43 w A0 l0.length l0) (hc0 : l0.length ≤ c0) (h : line_Four.f k l0 a1 = some (r1, r2, r3, r4, r5, r6, r7, r8, r9, r10, r11, r12, r13, r14)) :
    Calls Try.prog 10 #[.slice A0 l0.length c0, .int .i64 a1] w fun e w' => e = .returned (.tuple #[.agg #[.int .i64 r1, .int .i64 r2, .string r3, .int .i64 r4, .int .i64 r5, .string r6, .int .i64 r7, .int .i64 r8, .string r9, .int .i64 r10, .int .i64 r11, .string r12], .int .i64 r13, .int .i64 r14]) ∧ Below w.heap.size w w' := by
  have hu2 := Try.underlying26; have hu3 := Try.underlying36; have HR := am_ hr0; have HC := am_ hc0; have HB := am_ (Below.refl w.heap.size w); unfold line_Four.f at h; replace h := bs_ h; obtain ⟨⟨t1, t2, t3⟩, hk, h⟩ := h; have A1 := am_ hk; clear hk hr0 hc0; dsimp only at h; by_cases e0 : t3 = 0
  · rw [if_pos e0] at h
    have q0 : (t3 != 0) = false := bne_eq_false_iff_eq.2 e0; clear e0; by_cases e1 : 0 < t1.length
    rotate_left
    · rw [if_neg e1] at h
      cases h
    rw [if_pos e1] at h; replace h := bs_ h; obtain ⟨x, hm, h⟩ := h; by_cases e2 : x.length = 4
    rotate_left
    · rw [if_neg e2] at h
      cases h
    rw [if_pos e2] at h; simp only [Option.some.injEq, Prod.mk.injEq] at h; obtain ⟨rfl, rfl, rfl, rfl, rfl, rfl, rfl, rfl, rfl, rfl, rfl, rfl, rfl, rfl⟩ := h; have HM := am_ hm; have E1 := am_ e1; have E2 := am_ e2; clear hm e1 e2; go_enter Try.func10, Try.ntmps10
    go_wp2_with (first | go_step3 | ((with_reducible refine gate_dst (N := 4) rfl ?_); refine box_event ?hg (N := 4) ?hd (cs := Z) (t := 36) ?hr ?_; (case hd => rfl); (case hg => rfl); (case hr => first | (go_simp; done) | (go_simp; rfl)); intro b4 hg w2 hbox hb; have HX : Aside0 (Sp w w2 b4 Z) := ⟨⟨hbox, below_step bel_ hb, (bsz_ hg : w.heap.size ≤ b4)⟩⟩; clear HB hb hbox hg) | ((with_reducible refine gate_callee (f := 23) rfl ?_); refine goesL_ (some 11) rfl rfl Try.func23 (by kernel_rfl) rfl #[.slice A0 l0.length c0, .int .i64 a1, .int .i64 4] rfl goa_ ?_; (with_reducible refine (line_lines.calls k _ _ l0 a1 4 t1 t2 t3 _ ?side1 ?side2 A1.out).mono ?_); (case side1 => exact Kd.C_below HR.out (show Sp w _ b4 Z by repeat (first | (with_reducible first | exact HX.out | apply Sp.drewN | apply Sp.drew | apply Sp.alloc))).b); (case side2 => exact HC.out); rintro e w10 ⟨v, rfl, ho0, hb⟩; refine ⟨_, rfl, ?_⟩; have HO : Aside0 (Row w w10 b4 v t1) := ⟨Kd.R_mono (Kd.R_lower (Kd.R_newB ho0 (g := b4) (show Sp w _ b4 Z by repeat (first | (with_reducible first | exact HX.out | apply Sp.drewN | apply Sp.drew | apply Sp.alloc))).s) (below_size (show Sp w _ b4 Z by repeat (first | (with_reducible first | exact HX.out | apply Sp.drewN | apply Sp.drew | apply Sp.alloc))).b)) (fun _ hk => hk.2)⟩; have n0_ := am_ (Sp.below (show Sp w _ b4 Z by repeat (first | (with_reducible first | exact HX.out | apply Sp.drewN | apply Sp.drew | apply Sp.alloc))) hb); clear HX hb ho0; have HX := n0_; clear n0_; obtain ⟨Ao, cv, eo⟩ := Kd.R_slice HO.out; subst eo; obtain ⟨hc0, hc1, hc2, hc3, hc4, hc5, hc6, hc7, hc8, hc9, hc10, hc11⟩ := Sp.c HX.out; obtain ⟨hz0, hz1, hz2, hz3, hz4, hz5, hz6, hz7, hz8, hz9, hz10, hz11⟩ := Sp.f HX.out))
    obtain ⟨ad, cv2, ev⟩ := Kd.R_slice1 HO.out E1.out; cases ev
    clear hc0 hz0 hc1 hz1 hc2 hz2 hc3 hz3 hc4 hz4 hc5 hz5 hc6 hz6 hc7 hz7 hc8 hz8 hc9 hz9 hc10 hz10 hc11 hz11; go_loopg [7] k (fun kq v7 w' => ∃ (y : List S26) (ad : Addr) (cy : Nat), v7 = .slice (some ad) y.length cy ∧ Aside0 (0 < y.length) ∧ Aside0 (line_Four.l0 kq y = some x) ∧ Aside0 (Sp w w' b4 Z) ∧ Aside0 (Row w w' b4 (.slice (some ad) y.length cy) y))
    case atStart => exact ⟨t1, ad, cv, rfs_, E1, HM, ⟨(show Sp w _ b4 Z by repeat (first | (with_reducible first | exact HX.out | apply Sp.drewN | apply Sp.drew | apply Sp.alloc)))⟩, ⟨(row_ HO)⟩⟩
    case round =>
      clear HX HO HM E1; obtain ⟨y, ad, cy, rfl, HY, HA, HX, HO⟩ := hrel
      cases gk with
      | zero => exact absurd HA.out (by simp [line_Four.l0])
      | succ k1 =>
        have H := HA.out; clear HA; simp only [line_Four.l0] at H; by_cases c4 : (y.length : Int) < 4
        · rw [if_pos c4] at H
          replace H := bs_ H; obtain ⟨⟨u1, u2, u3⟩, ho, H⟩ := H; have A2 := am_ ho; have H' := am_ H; have C4 := am_ c4; have c4b0 : decide ((y.length : Int) < 4) = true := dt_ c4; have c4b1 : decide (y.length < 4) = true := dt_ (by omega); clear H ho c4; have hy := HY.out; have hc4 := C4.out; by_cases c3 : y.length = 3
          · rw [if_pos c3] at A2
            have mx : max (0 : Int) ((y.length : Int) - 2) = 1 := by omega
            have mw : max (0 : Int) (wrap64 ((y.length : Int) - 2)) = 1 := by rw [Go.Proofs.Ytofdhdafabmhmaa.Evs.w64 (by omega) (by omega)]; omega
            have qi : (1 < y.length) = True := eq_true (by omega); have C3 := am_ c3; obtain ⟨_, e0, hx0, hx1, hx2⟩ := at_T26 (Kd.R_reads' HO.out).2.2 1 (by omega) (by omega); cases e0
            clear c3 hy hc4; (try rw [show ((0 : Int)).toNat = 0 from rfl] at hx0 hx1 hx2)
            (try rw [show 0 * 3 = 0 from rfl] at hx0 hx1 hx2)
            (try rw [Addr.add_zero'] at hx0 hx1 hx2)
            (try simp only [Addr.add, show ((1 : Int)).toNat * 3 = 3 from rfl, show ((3 : Nat) = 0) = False from eq_false (by decide), if_false] at hx0 hx1 hx2)
            go_wp2_with (first | go_step3 | ((with_reducible refine gate_callee (f := 24) rfl ?_); refine goesL_ (some 31) rfl rfl Try.func24 (by kernel_rfl) rfl #[.agg #[.int .i64 (rd_T26 y 1).f0, .int .i64 (rd_T26 y 1).f1, .string (rd_T26 y 1).f2]] rfl goa_ ?_; (with_reducible refine (line_other.calls _ _ _ u1 u2 u3 _ A2.out).mono ?_); rintro e w13 ⟨rfl, hb⟩; refine ⟨_, rfl, ?_⟩; have n0_ := am_ (Sp.below (show Sp w _ b4 Z by repeat (first | (with_reducible first | exact HX.out | apply Sp.drewN | apply Sp.drew | apply Sp.alloc))) hb); have n1_ : Aside0 (Row w w13 b4 (.slice (some ad) y.length cy) y) := ⟨Kd.R_below (row_ HO) hb⟩; clear HX HO hb; have HX := n0_; have HO := n1_; clear n0_ n1_) | ((with_reducible refine gate_builtin (b := .append) (xs := #[.tmp 23, .tmp 32]) rfl ?_); at_builtin; refine Kd.R_append k26 (w0 := w) w.heap.size rfl (.tmp 23) (.tmp 32) 57 26 (.agg #[(.int .i64 0), (.int .i64 0), (.string ⟨#[]⟩)]) 32 rfl Try.underlying57 info26 rfl (by decide) (by omega) (.slice (some ad) y.length cy) y (⟨u1, u2, u3⟩ : S26) [.int .i64 u1, .int .i64 u2, .string u3] (fun k => k ≠ b4) (fun _ => False) rfl rfl ?aP (fun _ hk => hk.elim) ?aF ?aO ?aB ?aS ?aL ?_; (case aP => exact k26_mkM _ _ _ (⟨u1, u2, u3⟩ : S26)); (case aB => exact (Sp.b (show Sp w _ b4 Z by repeat (first | (with_reducible first | exact HX.out | apply Sp.drewN | apply Sp.drew | apply Sp.alloc))))); (case aF => exact (fun k hk => by have := blk_lt (Sp.s (show Sp w _ b4 Z by repeat (first | (with_reducible first | exact HX.out | apply Sp.drewN | apply Sp.drew | apply Sp.alloc)))); omega)); (case aO => exact (row_ HO)); (case aS => exact (below_size (Sp.b (show Sp w _ b4 Z by repeat (first | (with_reducible first | exact HX.out | apply Sp.drewN | apply Sp.drew | apply Sp.alloc)))))); (case aL => have := C4.out; omega); intro v2 w14 ho hb hg hat; have HG := am_ (HO.out.1 ad.block rfl); have n0_ := am_ (Sp.grown (show Sp w _ b4 Z by repeat (first | (with_reducible first | exact HX.out | apply Sp.drewN | apply Sp.drew | apply Sp.alloc))) hg (fun e => HG.out (si_ e).symm) hb); clear HX HO; have HX := n0_; have HO : Aside0 (Row w w14 b4 v2 (y ++ [⟨u1, u2, u3⟩])) := ⟨ho⟩; clear n0_ ho hb hg hat HG))
            have hl : (y ++ [(⟨u1, u2, u3⟩ : S26)]).length = y.length + 1 := by rw [List.length_append, List.length_singleton]
            obtain ⟨ad2, cx, rfl⟩ := Kd.R_slice1 HO.out (by rw [hl]; omega); go_roundg k1
            case measure => omega
            case rel => exact ⟨_, ad2, cx, rfs_, ⟨by rw [hl]; omega⟩, H', ⟨(show Sp w _ b4 Z by repeat (first | (with_reducible first | exact HX.out | apply Sp.drewN | apply Sp.drew | apply Sp.alloc)))⟩, ⟨(row_ HO)⟩⟩
          rw [if_neg c3] at A2; have mx : max (0 : Int) ((y.length : Int) - 2) = 0 := by omega
          have mw : max (0 : Int) (wrap64 ((y.length : Int) - 2)) = 0 := by rw [Go.Proofs.Ytofdhdafabmhmaa.Evs.w64 (by omega) (by omega)]; omega
          have qi : (0 < y.length) = True := eq_true (by omega); have C3 := am_ c3; obtain ⟨_, e0, hx0, hx1, hx2⟩ := at_T26 (Kd.R_reads' HO.out).2.2 0 (by omega) (by omega); cases e0
          clear c3 hy hc4; (try rw [show ((0 : Int)).toNat = 0 from rfl] at hx0 hx1 hx2)
          (try rw [show 0 * 3 = 0 from rfl] at hx0 hx1 hx2)
          (try rw [Addr.add_zero'] at hx0 hx1 hx2)
          (try simp only [Addr.add, show ((1 : Int)).toNat * 3 = 3 from rfl, show ((3 : Nat) = 0) = False from eq_false (by decide), if_false] at hx0 hx1 hx2)
          go_wp2_with (first | go_step3 | ((with_reducible refine gate_callee (f := 24) rfl ?_); refine goesL_ (some 31) rfl rfl Try.func24 (by kernel_rfl) rfl #[.agg #[.int .i64 (rd_T26 y 0).f0, .int .i64 (rd_T26 y 0).f1, .string (rd_T26 y 0).f2]] rfl goa_ ?_; (with_reducible refine (line_other.calls _ _ _ u1 u2 u3 _ A2.out).mono ?_); rintro e w13 ⟨rfl, hb⟩; refine ⟨_, rfl, ?_⟩; have n0_ := am_ (Sp.below (show Sp w _ b4 Z by repeat (first | (with_reducible first | exact HX.out | apply Sp.drewN | apply Sp.drew | apply Sp.alloc))) hb); have n1_ : Aside0 (Row w w13 b4 (.slice (some ad) y.length cy) y) := ⟨Kd.R_below (row_ HO) hb⟩; clear HX HO hb; have HX := n0_; have HO := n1_; clear n0_ n1_) | ((with_reducible refine gate_builtin (b := .append) (xs := #[.tmp 23, .tmp 32]) rfl ?_); at_builtin; refine Kd.R_append k26 (w0 := w) w.heap.size rfl (.tmp 23) (.tmp 32) 57 26 (.agg #[(.int .i64 0), (.int .i64 0), (.string ⟨#[]⟩)]) 32 rfl Try.underlying57 info26 rfl (by decide) (by omega) (.slice (some ad) y.length cy) y (⟨u1, u2, u3⟩ : S26) [.int .i64 u1, .int .i64 u2, .string u3] (fun k => k ≠ b4) (fun _ => False) rfl rfl ?aP (fun _ hk => hk.elim) ?aF ?aO ?aB ?aS ?aL ?_; (case aP => exact k26_mkM _ _ _ (⟨u1, u2, u3⟩ : S26)); (case aB => exact (Sp.b (show Sp w _ b4 Z by repeat (first | (with_reducible first | exact HX.out | apply Sp.drewN | apply Sp.drew | apply Sp.alloc))))); (case aF => exact (fun k hk => by have := blk_lt (Sp.s (show Sp w _ b4 Z by repeat (first | (with_reducible first | exact HX.out | apply Sp.drewN | apply Sp.drew | apply Sp.alloc)))); omega)); (case aO => exact (row_ HO)); (case aS => exact (below_size (Sp.b (show Sp w _ b4 Z by repeat (first | (with_reducible first | exact HX.out | apply Sp.drewN | apply Sp.drew | apply Sp.alloc)))))); (case aL => have := C4.out; omega); intro v2 w14 ho hb hg hat; have HG := am_ (HO.out.1 ad.block rfl); have n0_ := am_ (Sp.grown (show Sp w _ b4 Z by repeat (first | (with_reducible first | exact HX.out | apply Sp.drewN | apply Sp.drew | apply Sp.alloc))) hg (fun e => HG.out (si_ e).symm) hb); clear HX HO; have HX := n0_; have HO : Aside0 (Row w w14 b4 v2 (y ++ [⟨u1, u2, u3⟩])) := ⟨ho⟩; clear n0_ ho hb hg hat HG))
          have hl : (y ++ [(⟨u1, u2, u3⟩ : S26)]).length = y.length + 1 := by rw [List.length_append, List.length_singleton]
          obtain ⟨ad2, cx, rfl⟩ := Kd.R_slice1 HO.out (by rw [hl]; omega); go_roundg k1
          case measure => omega
          case rel => exact ⟨_, ad2, cx, rfs_, ⟨by rw [hl]; omega⟩, H', ⟨(show Sp w _ b4 Z by repeat (first | (with_reducible first | exact HX.out | apply Sp.drewN | apply Sp.drew | apply Sp.alloc)))⟩, ⟨(row_ HO)⟩⟩
        rw [if_neg c4] at H; obtain rfl := si_ H; have c4b0 : decide ((y.length : Int) < 4) = false := df_ c4; have c4b1 : decide (y.length < 4) = false := df_ (by omega); clear c4 H; go_wp2_with (first | go_step3)
        have hr := Cpy.run_copy_rows (P := Try.prog) wr 57 57 3 26 3 b4 0 4 4 ad y.length cy Z 36 (vals y) Try.underlying57 rfl HX.out.s (by rw [E2.out]; rfl) (src (Kd.R_reads' HO.out).2.2 E2.out) (Nat.le_refl _) (one y); rw [hr]; have n0_ := am_ (Sp.copied HX.out y); clear hr HX HO; generalize World.setRow wr _ _ = w15 at n0_ ⊢
        have HX : Aside0 (Sp w w15 b4 #[(.int .i64 (rd_T26 y 0).f0), (.int .i64 (rd_T26 y 0).f1), (.string (rd_T26 y 0).f2), (.int .i64 (rd_T26 y 1).f0), (.int .i64 (rd_T26 y 1).f1), (.string (rd_T26 y 1).f2), (.int .i64 (rd_T26 y 2).f0), (.int .i64 (rd_T26 y 2).f1), (.string (rd_T26 y 2).f2), (.int .i64 (rd_T26 y 3).f0), (.int .i64 (rd_T26 y 3).f1), (.string (rd_T26 y 3).f2)]) := n0_; clear n0_; obtain ⟨hc0, hc1, hc2, hc3, hc4, hc5, hc6, hc7, hc8, hc9, hc10, hc11⟩ := Sp.c HX.out; obtain ⟨hz0, hz1, hz2, hz3, hz4, hz5, hz6, hz7, hz8, hz9, hz10, hz11⟩ := Sp.f HX.out; go_wp2; have HX5 := am_ (Sp.sets (show Sp w _ b4 #[(.int .i64 (rd_T26 y 0).f0), (.int .i64 (rd_T26 y 0).f1), (.string (rd_T26 y 0).f2), (.int .i64 (rd_T26 y 1).f0), (.int .i64 (rd_T26 y 1).f1), (.string (rd_T26 y 1).f2), (.int .i64 (rd_T26 y 2).f0), (.int .i64 (rd_T26 y 2).f1), (.string (rd_T26 y 2).f2), (.int .i64 (rd_T26 y 3).f0), (.int .i64 (rd_T26 y 3).f1), (.string (rd_T26 y 3).f2)] by repeat (first | (with_reducible first | exact HX.out | apply Sp.drewN | apply Sp.drew | apply Sp.alloc))) (.int .i64 (rd_T26 y 0).f0) (.int .i64 (rd_T26 y 0).f1) (.string (rd_T26 y 0).f2) (.int .i64 (rd_T26 y 1).f0) (.int .i64 (rd_T26 y 1).f1) (.string (rd_T26 y 1).f2) (.int .i64 (rd_T26 y 2).f0) (.int .i64 (rd_T26 y 2).f1) (.string (rd_T26 y 2).f2) (.int .i64 (rd_T26 y 3).f0) (.int .i64 (rd_T26 y 3).f1) (.string (rd_T26 y 3).f2)); refine bodyPost_ret (results_list (rs := [.cell 4 36, .tmp 5, .tmp 6]) rfl (by simp) (.cell b4 36 #[(.int .i64 (rd_T26 y 0).f0), (.int .i64 (rd_T26 y 0).f1), (.string (rd_T26 y 0).f2), (.int .i64 (rd_T26 y 1).f0), (.int .i64 (rd_T26 y 1).f1), (.string (rd_T26 y 1).f2), (.int .i64 (rd_T26 y 2).f0), (.int .i64 (rd_T26 y 2).f1), (.string (rd_T26 y 2).f2), (.int .i64 (rd_T26 y 3).f0), (.int .i64 (rd_T26 y 3).f1), (.string (rd_T26 y 3).f2)] (0, 0) _ rfl HX5.out.s Try.underlying36 rfl (by kernel_rfl) (.tmp (.tmp .nil)))) rfl ?_
        exact ⟨rsl_, HX5.out.b⟩
  rw [if_neg e0] at h; have q0 : (t3 != 0) = true := bne_iff_ne.2 e0; clear e0; simp only [Option.some.injEq, Prod.mk.injEq] at h; obtain ⟨rfl, rfl, rfl, rfl, rfl, rfl, rfl, rfl, rfl, rfl, rfl, rfl, rfl, rfl⟩ := h; go_enter Try.func10, Try.ntmps10
  go_wp2_with (first | go_step3 | ((with_reducible refine gate_dst (N := 4) rfl ?_); refine box_event ?hg (N := 4) ?hd (cs := Z) (t := 36) ?hr ?_; (case hd => rfl); (case hg => rfl); (case hr => first | (go_simp; done) | (go_simp; rfl)); intro b4 hg w2 hbox hb; have HX : Aside0 (Sp w w2 b4 Z) := ⟨⟨hbox, below_step bel_ hb, (bsz_ hg : w.heap.size ≤ b4)⟩⟩; clear HB hb hbox hg) | ((with_reducible refine gate_callee (f := 23) rfl ?_); refine goesL_ (some 11) rfl rfl Try.func23 (by kernel_rfl) rfl #[.slice A0 l0.length c0, .int .i64 a1, .int .i64 4] rfl goa_ ?_; (with_reducible refine (line_lines.calls k _ _ l0 a1 4 t1 t2 t3 _ ?side1 ?side2 A1.out).mono ?_); (case side1 => exact Kd.C_below HR.out (show Sp w _ b4 Z by repeat (first | (with_reducible first | exact HX.out | apply Sp.drewN | apply Sp.drew | apply Sp.alloc))).b); (case side2 => exact HC.out); rintro e w10 ⟨v, rfl, ho0, hb⟩; refine ⟨_, rfl, ?_⟩; have HO : Aside0 (Row w w10 b4 v t1) := ⟨Kd.R_mono (Kd.R_lower (Kd.R_newB ho0 (g := b4) (show Sp w _ b4 Z by repeat (first | (with_reducible first | exact HX.out | apply Sp.drewN | apply Sp.drew | apply Sp.alloc))).s) (below_size (show Sp w _ b4 Z by repeat (first | (with_reducible first | exact HX.out | apply Sp.drewN | apply Sp.drew | apply Sp.alloc))).b)) (fun _ hk => hk.2)⟩; have n0_ := am_ (Sp.below (show Sp w _ b4 Z by repeat (first | (with_reducible first | exact HX.out | apply Sp.drewN | apply Sp.drew | apply Sp.alloc))) hb); clear HX hb ho0; have HX := n0_; clear n0_; obtain ⟨Ao, cv, eo⟩ := Kd.R_slice HO.out; subst eo; obtain ⟨hc0, hc1, hc2, hc3, hc4, hc5, hc6, hc7, hc8, hc9, hc10, hc11⟩ := Sp.c HX.out; obtain ⟨hz0, hz1, hz2, hz3, hz4, hz5, hz6, hz7, hz8, hz9, hz10, hz11⟩ := Sp.f HX.out))
  have HX5 := am_ (Sp.sets (show Sp w _ b4 Z by repeat (first | (with_reducible first | exact HX.out | apply Sp.drewN | apply Sp.drew | apply Sp.alloc))) (.int .i64 0) (.int .i64 0) (.string ⟨#[]⟩) (.int .i64 0) (.int .i64 0) (.string ⟨#[]⟩) (.int .i64 0) (.int .i64 0) (.string ⟨#[]⟩) (.int .i64 0) (.int .i64 0) (.string ⟨#[]⟩)); refine bodyPost_ret (results_list (rs := [.cell 4 36, .tmp 5, .tmp 6]) rfl (by simp) (.cell b4 36 #[.int .i64 0, .int .i64 0, .string (⟨#[]⟩ : ByteArray), .int .i64 0, .int .i64 0, .string (⟨#[]⟩ : ByteArray), .int .i64 0, .int .i64 0, .string (⟨#[]⟩ : ByteArray), .int .i64 0, .int .i64 0, .string (⟨#[]⟩ : ByteArray)] (0, 0) _ rfl HX5.out.s Try.underlying36 rfl (by kernel_rfl) (.tmp (.tmp .nil)))) rfl ?_
  exact ⟨rsl_, HX5.out.b⟩
end line_Four
end Go.Proofs.Ytofdhdafabmhmaa.Giv
end
section
namespace Go.Proofs.Ytofdhdafabmhmaa.Giv
open Go.RowKit Go.Proofs.YtofdhdafabmhmaaW.PrintWords Go.Proofs.YtofdhdafabmhmaaW.PrintLast Go.Proofs.YtofdhdafabmhmaaW.PrintMore Go.Proofs.Ytofdhdafabmhmaa.PLr
open Go.Proofs.Ytofdhdafabmhmaa.Opn Go.BigFrame
def r07_Four.step (n : Nat) (i : Int) (x : List S26) : Option (List S26) := if x.length = n then (r07_Other.f (rd_T26 x i).f0 (rd_T26 x i).f1 (rd_T26 x i).f2).bind fun t => some (x ++ [⟨t.1, t.2.1, t.2.2⟩]) else some x
def r07_Four.f (k : Nat) (l0 : List S43) (a1 : Int) : Option (Int × Int × ByteArray × Int × Int × ByteArray × Int × Int × ByteArray × Int × Int × ByteArray × Int × Int) :=
  (r07_Lines.f k l0 a1 4).bind fun r => if r.2.2 = 0 then if 0 < r.1.length ∧ r.1.length ≤ 4 then (r07_Four.step 1 0 r.1).bind fun y => (r07_Four.step 2 0 y).bind fun z => (r07_Four.step 3 1 z).bind fun x => if x.length = 4 then some ((rd_T26 x 0).f0, (rd_T26 x 0).f1, (rd_T26 x 0).f2, (rd_T26 x 1).f0, (rd_T26 x 1).f1, (rd_T26 x 1).f2, (rd_T26 x 2).f0, (rd_T26 x 2).f1, (rd_T26 x 2).f2, (rd_T26 x 3).f0, (rd_T26 x 3).f1, (rd_T26 x 3).f2, r.2.1, 0) else none else none
    else some (0, 0, ⟨#[]⟩, 0, 0, ⟨#[]⟩, 0, 0, ⟨#[]⟩, 0, 0, ⟨#[]⟩, r.2.1, r.2.2)
theorem r07_Four.mono : ∀ l0 a1 k, LeO (r07_Four.f k l0 a1) (r07_Four.f (k + 1) l0 a1) := by
  intro l0 a1 k; unfold r07_Four.f; exact LeO.bind (r07_Lines.mono _ _ _ _) (fun r => LeO.refl _)
namespace r07_Four
open Go.Proofs.Ytofdhdafabmhmaa.Giv.line_Four (Sp Row at_)
theorem step_len {n : Nat} {i : Int} {x y : List S26} (h : step n i x = some y) : (x.length = n ∧ y.length = n + 1) ∨ (x.length ≠ n ∧ y = x) := by
  unfold step at h; by_cases e : x.length = n
  · rw [if_pos e] at h
    obtain ⟨t, _, h⟩ := bs_ h; rw [← si_ h, List.length_append, List.length_singleton]; exact Or.inl ⟨e, by omega⟩
  rw [if_neg e] at h; exact Or.inr ⟨e, (si_ h).symm⟩
def Fourr.T10 : Bool × List (List Nat × List Nat) := (true, [([], []), ([0], [0]), ([1], [1]), ([], []), ([3], [3]), ([4], [4]), ([], []), ([6], [6]), ([7], [7]), ([], []), ([9], [9]), ([10], [10]), ([2, 5, 8, 11], [2, 5, 8, 11]), ([], []), ([12, 0, 1, 2, 3, 4, 5, 6, 7, 8, 9, 10, 11, 12], [12]), ([13, 14, 0, 1, 2, 3, 4, 5, 6, 7, 8, 9, 10, 11, 12, 13, 14], [13]), ([15, 0, 1, 2, 3, 4, 5, 6, 7, 8, 9, 10, 11, 12, 13, 14, 15], [])])
def Fourr.B10 : List Nat := [0, 1, 3, 0, 8, 24, 0, 64, 192, 0, 512, 1536, 4095, 0, 8191, 32767, 65535]
theorem Fourr.tab10 : rtab .any (opsOf Try.f11 10) = Fourr.T10 := by kernel_rfl
theorem Fourr.bits10 : waitsOk Fourr.T10.2 Fourr.B10 = true := by kernel_rfl
set_option maxHeartbeats 16000000 in
set_option maxRecDepth 100000 in
theorem calls (k : Nat) (A0 : Option Addr) (c0 : Nat) (l0 : List S43) (a1 r1 r2 : Int) (r3 : ByteArray) (r4 r5 : Int) (r6 : ByteArray) (r7 r8 : Int) (r9 : ByteArray) (r10 r11 : Int) (r12 : ByteArray) (r13 r14 : Int) (w : World) (hr0 : Kd.C k43 w A0 l0.length l0) (hc0 : l0.length ≤ c0) (h : r07_Four.f k l0 a1 = some (r1, r2, r3, r4, r5, r6, r7, r8, r9, r10, r11, r12, r13, r14)) :
    Calls Try.prog 11 #[.slice A0 l0.length c0, .int .i64 a1] w fun e w' => e = .returned (.tuple #[.agg #[.int .i64 r1, .int .i64 r2, .string r3, .int .i64 r4, .int .i64 r5, .string r6, .int .i64 r7, .int .i64 r8, .string r9, .int .i64 r10, .int .i64 r11, .string r12], .int .i64 r13, .int .i64 r14]) ∧ Below w.heap.size w w' := by
  have hu2 := Try.underlying26; have hu3 := Try.underlying36; have HR := am_ hr0; have HC := am_ hc0; have HB := am_ (Below.refl w.heap.size w); unfold r07_Four.f at h; replace h := bs_ h; obtain ⟨⟨t1, t2, t3⟩, hk, h⟩ := h; have A1 := am_ hk; clear hk hr0 hc0; dsimp only at h; by_cases e0 : t3 = 0
  · rw [if_pos e0] at h
    have q0 : (t3 != 0) = false := bne_eq_false_iff_eq.2 e0; clear e0; by_cases e1 : 0 < t1.length ∧ t1.length ≤ 4
    rotate_left
    · rw [if_neg e1] at h
      cases h
    rw [if_pos e1] at h; replace h := bs_ h; obtain ⟨y, hy, h⟩ := h; replace h := bs_ h; obtain ⟨z, hz, h⟩ := h; replace h := bs_ h; obtain ⟨x, hx, h⟩ := h; by_cases e2 : x.length = 4
    rotate_left
    · rw [if_neg e2] at h
      cases h
    rw [if_pos e2] at h; simp only [Option.some.injEq, Prod.mk.injEq] at h; obtain ⟨rfl, rfl, rfl, rfl, rfl, rfl, rfl, rfl, rfl, rfl, rfl, rfl, rfl, rfl⟩ := h; have Ly : 0 < y.length ∧ y.length ≤ 4 := by
      rcases step_len hy with ⟨_, e⟩ | ⟨_, rfl⟩
      · omega
      exact e1
    have Lz : 0 < z.length ∧ z.length ≤ 4 := by
      rcases step_len hz with ⟨_, e⟩ | ⟨_, rfl⟩
      · omega
      exact Ly
    have H1 := am_ hy; have H2 := am_ hz; have H3 := am_ hx; have Lt1 := am_ e1; have n0_ := am_ Ly; have n1_ := am_ Lz; have E2 := am_ e2; clear Ly Lz hy hz hx e1 e2; have Ly := n0_; have Lz := n1_; clear n0_ n1_; go_enter Try.func11, Try.ntmps11
    go_upto_if 24 with (first | go_step3 | ((with_reducible refine gate_dst (N := 4) rfl ?_); refine box_event ?hg (N := 4) ?hd (cs := line_Four.Z) (t := 36) ?hr ?_; (case hd => rfl); (case hg => rfl); (case hr => first | (go_simp; done) | (go_simp; rfl)); intro b4 hg w2 hbox hb; have HX : Aside0 (Sp w w2 b4 line_Four.Z) := ⟨⟨hbox, below_step bel_ hb, (bsz_ hg : w.heap.size ≤ b4)⟩⟩; clear HB hb hbox hg) | ((with_reducible refine gate_callee (f := 25) rfl ?_); refine goesL_ (some 13) rfl rfl Try.func25 (by kernel_rfl) rfl #[.slice A0 l0.length c0, .int .i64 a1, .int .i64 4] rfl goa_ ?_; (with_reducible refine (r07_Lines.calls k _ _ l0 a1 4 t1 t2 t3 _ ?side1 ?side2 A1.out).mono ?_); (case side1 => exact Kd.C_below HR.out (show Sp w _ b4 line_Four.Z by repeat (first | (with_reducible first | exact HX.out | apply Sp.drewN | apply Sp.drew | apply Sp.alloc))).b); (case side2 => exact HC.out); rintro e w10 ⟨v, rfl, ho0, hb⟩; refine ⟨_, rfl, ?_⟩; have HO : Aside0 (Row w w10 b4 v t1) := ⟨Kd.R_mono (Kd.R_lower (Kd.R_newB ho0 (g := b4) (show Sp w _ b4 line_Four.Z by repeat (first | (with_reducible first | exact HX.out | apply Sp.drewN | apply Sp.drew | apply Sp.alloc))).s) (below_size (show Sp w _ b4 line_Four.Z by repeat (first | (with_reducible first | exact HX.out | apply Sp.drewN | apply Sp.drew | apply Sp.alloc))).b)) (fun _ hk => hk.2)⟩; have n0_ := am_ (Sp.below (show Sp w _ b4 line_Four.Z by repeat (first | (with_reducible first | exact HX.out | apply Sp.drewN | apply Sp.drew | apply Sp.alloc))) hb); clear HX hb ho0; have HX := n0_; clear n0_; obtain ⟨Ao, cv, eo⟩ := Kd.R_slice HO.out; subst eo; obtain ⟨hc0, hc1, hc2, hc3, hc4, hc5, hc6, hc7, hc8, hc9, hc10, hc11⟩ := Sp.c HX.out; obtain ⟨hz0, hz1, hz2, hz3, hz4, hz5, hz6, hz7, hz8, hz9, hz10, hz11⟩ := Sp.f HX.out))
    obtain ⟨ad, cv2, ev⟩ := Kd.R_slice1 HO.out Lt1.out.1; cases ev
    go_cut [7] (fun v7 wc => ∃ (ad : Addr) (cy : Nat), v7 = .slice (some ad) y.length cy ∧ Aside0 (Sp w wc b4 line_Four.Z) ∧ Aside0 (Row w wc b4 (.slice (some ad) y.length cy) y))
    case first =>
      have hm := H1.out; have ln := Lt1.out; clear hc0 hz0 hc1 hz1 hc2 hz2 hc3 hz3 hc4 hz4 hc5 hz5 hc6 hz6 hc7 hz7 hc8 hz8 hc9 hz9 hc10 hz10 hc11 hz11; by_cases e2 : t1.length = 1
      · have C4 := am_ e2
        unfold step at hm; rw [if_pos e2] at hm; replace hm := bs_ hm; obtain ⟨⟨u1, u2, u3⟩, ho, hm⟩ := hm; have A2 := am_ ho; have EU := am_ (si_ hm); have c5b0 : ((t1.length : Int) == 1) = true := beq_iff_eq.2 (by omega); have c5b1 : (t1.length == 1) = true := beq_iff_eq.2 e2; obtain ⟨_, e0, hx0, hx1, hx2⟩ := at_T26 (Kd.R_reads' HO.out).2.2 0 (by omega) (by omega); cases e0
        (try rw [show ((0 : Int)).toNat = 0 from rfl] at hx0 hx1 hx2)
        (try rw [show 0 * 3 = 0 from rfl] at hx0 hx1 hx2)
        (try rw [Addr.add_zero'] at hx0 hx1 hx2)
        (try simp only [Addr.add, show ((1 : Int)).toNat * 3 = 3 from rfl, show ((3 : Nat) = 0) = False from eq_false (by decide), if_false] at hx0 hx1 hx2)
        have qi : (0 < t1.length) = True := eq_true (by omega); have qj : ((0 : Int) < (t1.length : Int)) = True := eq_true (by omega); clear ho hm ln e2; (first | rw [c5b0] | rw [c5b1] | (simp only [i64_w, i32_w]; rw [c5b0]) | skip)
        go_wp2_with (first | go_step3 | ((with_reducible refine gate_callee (f := 26) rfl ?_); refine goesL_ (some 29) rfl rfl Try.func26 (by kernel_rfl) rfl #[.agg #[.int .i64 (rd_T26 t1 0).f0, .int .i64 (rd_T26 t1 0).f1, .string (rd_T26 t1 0).f2]] rfl goa_ ?_; (with_reducible refine (r07_Other.calls _ _ _ u1 u2 u3 _ A2.out).mono ?_); rintro e w13 ⟨rfl, hb⟩; refine ⟨_, rfl, ?_⟩; have n0_ := am_ (Sp.below (show Sp w _ b4 line_Four.Z by repeat (first | (with_reducible first | exact HX.out | apply Sp.drewN | apply Sp.drew | apply Sp.alloc))) hb); have n1_ : Aside0 (Row w w13 b4 (.slice (some ad) t1.length cv) t1) := ⟨Kd.R_below (row_ HO) hb⟩; clear HX HO hb; have HX := n0_; have HO := n1_; clear n0_ n1_) | ((with_reducible refine gate_builtin (b := .append) (xs := #[.tmp 25, .tmp 30]) rfl ?_); at_builtin; refine Kd.R_append k26 (w0 := w) w.heap.size rfl (.tmp 25) (.tmp 30) 57 26 (.agg #[(.int .i64 0), (.int .i64 0), (.string ⟨#[]⟩)]) 32 rfl Try.underlying57 info26 rfl (by decide) (by omega) (.slice (some ad) t1.length cv) t1 (⟨u1, u2, u3⟩ : S26) [.int .i64 u1, .int .i64 u2, .string u3] (fun k => k ≠ b4) (fun _ => False) rfl rfl ?aP (fun _ hk => hk.elim) ?aF ?aO ?aB ?aS ?aL ?_; (case aP => exact k26_mkM _ _ _ (⟨u1, u2, u3⟩ : S26)); (case aB => exact (Sp.b (show Sp w _ b4 line_Four.Z by repeat (first | (with_reducible first | exact HX.out | apply Sp.drewN | apply Sp.drew | apply Sp.alloc))))); (case aF => exact (fun k hk => by have := blk_lt (Sp.s (show Sp w _ b4 line_Four.Z by repeat (first | (with_reducible first | exact HX.out | apply Sp.drewN | apply Sp.drew | apply Sp.alloc)))); omega)); (case aO => exact (row_ HO)); (case aS => exact (below_size (Sp.b (show Sp w _ b4 line_Four.Z by repeat (first | (with_reducible first | exact HX.out | apply Sp.drewN | apply Sp.drew | apply Sp.alloc)))))); (case aL => have := C4.out; omega); intro v2 w14 ho hb hg hat; have HG := am_ (HO.out.1 ad.block rfl); have n0_ := am_ (Sp.grown (show Sp w _ b4 line_Four.Z by repeat (first | (with_reducible first | exact HX.out | apply Sp.drewN | apply Sp.drew | apply Sp.alloc))) hg (fun e => HG.out (si_ e).symm) hb); clear HX HO; have HX := n0_; have HO : Aside0 (Row w w14 b4 v2 (t1 ++ [⟨u1, u2, u3⟩])) := ⟨ho⟩; clear n0_ ho hb hg hat HG))
        obtain ⟨ad2, cx, rfl⟩ := Kd.R_slice1 HO.out (by rw [List.length_append, List.length_singleton]; omega); go_meet
        case rel => rw [← EU.out]; exact ⟨ad2, cx, rfl, ⟨(show Sp w _ b4 line_Four.Z by repeat (first | (with_reducible first | exact HX.out | apply Sp.drewN | apply Sp.drew | apply Sp.alloc)))⟩, ⟨(row_ HO)⟩⟩
      have c5b0 : ((t1.length : Int) == 1) = false := beq_eq_false_iff_ne.2 (by omega); have c5b1 : (t1.length == 1) = false := beq_eq_false_iff_ne.2 e2; unfold step at hm; rw [if_neg e2] at hm; have EU := am_ (si_ hm); clear hm ln e2; (first | rw [c5b0] | rw [c5b1] | (simp only [i64_w, i32_w]; rw [c5b0]) | skip)
      go_wp2_with (first | go_step3)
      go_meet
      case rel => rw [← EU.out]; exact ⟨ad, cv, rfl, ⟨(show Sp w _ b4 line_Four.Z by repeat (first | (with_reducible first | exact HX.out | apply Sp.drewN | apply Sp.drew | apply Sp.alloc)))⟩, ⟨(row_ HO)⟩⟩
    clear HX HO hc0 hz0 hc1 hz1 hc2 hz2 hc3 hz3 hc4 hz4 hc5 hz5 hc6 hz6 hc7 hz7 hc8 hz8 hc9 hz9 hc10 hz10 hc11 hz11; obtain ⟨ad, cy, rfl, HX, HO⟩ := hcut; (obtain ⟨hc0, hc1, hc2, hc3, hc4, hc5, hc6, hc7, hc8, hc9, hc10, hc11⟩ := Sp.c HX.out; obtain ⟨hz0, hz1, hz2, hz3, hz4, hz5, hz6, hz7, hz8, hz9, hz10, hz11⟩ := Sp.f HX.out)
    go_upto_if 34 with (first | go_step3)
    go_cut [7] (fun v7 wc => ∃ (ad : Addr) (cy : Nat), v7 = .slice (some ad) z.length cy ∧ Aside0 (Sp w wc b4 line_Four.Z) ∧ Aside0 (Row w wc b4 (.slice (some ad) z.length cy) z))
    case first =>
      have hm := H2.out; have ln := Ly.out; clear hc0 hz0 hc1 hz1 hc2 hz2 hc3 hz3 hc4 hz4 hc5 hz5 hc6 hz6 hc7 hz7 hc8 hz8 hc9 hz9 hc10 hz10 hc11 hz11; by_cases e2 : y.length = 2
      · have C4 := am_ e2
        unfold step at hm; rw [if_pos e2] at hm; replace hm := bs_ hm; obtain ⟨⟨u1, u2, u3⟩, ho, hm⟩ := hm; have A2 := am_ ho; have EU := am_ (si_ hm); have c5b0 : ((y.length : Int) == 2) = true := beq_iff_eq.2 (by omega); have c5b1 : (y.length == 2) = true := beq_iff_eq.2 e2; obtain ⟨_, e0, hx0, hx1, hx2⟩ := at_T26 (Kd.R_reads' HO.out).2.2 0 (by omega) (by omega); cases e0
        (try rw [show ((0 : Int)).toNat = 0 from rfl] at hx0 hx1 hx2)
        (try rw [show 0 * 3 = 0 from rfl] at hx0 hx1 hx2)
        (try rw [Addr.add_zero'] at hx0 hx1 hx2)
        (try simp only [Addr.add, show ((1 : Int)).toNat * 3 = 3 from rfl, show ((3 : Nat) = 0) = False from eq_false (by decide), if_false] at hx0 hx1 hx2)
        have qi : (0 < y.length) = True := eq_true (by omega); have qj : ((0 : Int) < (y.length : Int)) = True := eq_true (by omega); clear ho hm ln e2; (first | rw [c5b0] | rw [c5b1] | (simp only [i64_w, i32_w]; rw [c5b0]) | skip)
        go_wp2_with (first | go_step3 | ((with_reducible refine gate_callee (f := 26) rfl ?_); refine goesL_ (some 39) rfl rfl Try.func26 (by kernel_rfl) rfl #[.agg #[.int .i64 (rd_T26 y 0).f0, .int .i64 (rd_T26 y 0).f1, .string (rd_T26 y 0).f2]] rfl goa_ ?_; (with_reducible refine (r07_Other.calls _ _ _ u1 u2 u3 _ A2.out).mono ?_); rintro e w13 ⟨rfl, hb⟩; refine ⟨_, rfl, ?_⟩; have n0_ := am_ (Sp.below (show Sp w _ b4 line_Four.Z by repeat (first | (with_reducible first | exact HX.out | apply Sp.drewN | apply Sp.drew | apply Sp.alloc))) hb); have n1_ : Aside0 (Row w w13 b4 (.slice (some ad) y.length cy) y) := ⟨Kd.R_below (row_ HO) hb⟩; clear HX HO hb; have HX := n0_; have HO := n1_; clear n0_ n1_) | ((with_reducible refine gate_builtin (b := .append) (xs := #[.tmp 35, .tmp 40]) rfl ?_); at_builtin; refine Kd.R_append k26 (w0 := w) w.heap.size rfl (.tmp 35) (.tmp 40) 57 26 (.agg #[(.int .i64 0), (.int .i64 0), (.string ⟨#[]⟩)]) 32 rfl Try.underlying57 info26 rfl (by decide) (by omega) (.slice (some ad) y.length cy) y (⟨u1, u2, u3⟩ : S26) [.int .i64 u1, .int .i64 u2, .string u3] (fun k => k ≠ b4) (fun _ => False) rfl rfl ?aP (fun _ hk => hk.elim) ?aF ?aO ?aB ?aS ?aL ?_; (case aP => exact k26_mkM _ _ _ (⟨u1, u2, u3⟩ : S26)); (case aB => exact (Sp.b (show Sp w _ b4 line_Four.Z by repeat (first | (with_reducible first | exact HX.out | apply Sp.drewN | apply Sp.drew | apply Sp.alloc))))); (case aF => exact (fun k hk => by have := blk_lt (Sp.s (show Sp w _ b4 line_Four.Z by repeat (first | (with_reducible first | exact HX.out | apply Sp.drewN | apply Sp.drew | apply Sp.alloc)))); omega)); (case aO => exact (row_ HO)); (case aS => exact (below_size (Sp.b (show Sp w _ b4 line_Four.Z by repeat (first | (with_reducible first | exact HX.out | apply Sp.drewN | apply Sp.drew | apply Sp.alloc)))))); (case aL => have := C4.out; omega); intro v2 w14 ho hb hg hat; have HG := am_ (HO.out.1 ad.block rfl); have n0_ := am_ (Sp.grown (show Sp w _ b4 line_Four.Z by repeat (first | (with_reducible first | exact HX.out | apply Sp.drewN | apply Sp.drew | apply Sp.alloc))) hg (fun e => HG.out (si_ e).symm) hb); clear HX HO; have HX := n0_; have HO : Aside0 (Row w w14 b4 v2 (y ++ [⟨u1, u2, u3⟩])) := ⟨ho⟩; clear n0_ ho hb hg hat HG))
        obtain ⟨ad2, cx, rfl⟩ := Kd.R_slice1 HO.out (by rw [List.length_append, List.length_singleton]; omega); go_meet
        case rel => rw [← EU.out]; exact ⟨ad2, cx, rfl, ⟨(show Sp w _ b4 line_Four.Z by repeat (first | (with_reducible first | exact HX.out | apply Sp.drewN | apply Sp.drew | apply Sp.alloc)))⟩, ⟨(row_ HO)⟩⟩
      have c5b0 : ((y.length : Int) == 2) = false := beq_eq_false_iff_ne.2 (by omega); have c5b1 : (y.length == 2) = false := beq_eq_false_iff_ne.2 e2; unfold step at hm; rw [if_neg e2] at hm; have EU := am_ (si_ hm); clear hm ln e2; (first | rw [c5b0] | rw [c5b1] | (simp only [i64_w, i32_w]; rw [c5b0]) | skip)
      go_wp2_with (first | go_step3)
      go_meet
      case rel => rw [← EU.out]; exact ⟨ad, cy, rfl, ⟨(show Sp w _ b4 line_Four.Z by repeat (first | (with_reducible first | exact HX.out | apply Sp.drewN | apply Sp.drew | apply Sp.alloc)))⟩, ⟨(row_ HO)⟩⟩
    clear HX HO hc0 hz0 hc1 hz1 hc2 hz2 hc3 hz3 hc4 hz4 hc5 hz5 hc6 hz6 hc7 hz7 hc8 hz8 hc9 hz9 hc10 hz10 hc11 hz11; obtain ⟨ad, cy, rfl, HX, HO⟩ := hcut; (obtain ⟨hc0, hc1, hc2, hc3, hc4, hc5, hc6, hc7, hc8, hc9, hc10, hc11⟩ := Sp.c HX.out; obtain ⟨hz0, hz1, hz2, hz3, hz4, hz5, hz6, hz7, hz8, hz9, hz10, hz11⟩ := Sp.f HX.out)
    go_upto_if 44 with (first | go_step3)
    go_cut [7] (fun v7 wc => ∃ (ad : Addr) (cy : Nat), v7 = .slice (some ad) x.length cy ∧ Aside0 (Sp w wc b4 line_Four.Z) ∧ Aside0 (Row w wc b4 (.slice (some ad) x.length cy) x))
    case first =>
      have hm := H3.out; have ln := Lz.out; clear hc0 hz0 hc1 hz1 hc2 hz2 hc3 hz3 hc4 hz4 hc5 hz5 hc6 hz6 hc7 hz7 hc8 hz8 hc9 hz9 hc10 hz10 hc11 hz11; by_cases e2 : z.length = 3
      · have C4 := am_ e2
        unfold step at hm; rw [if_pos e2] at hm; replace hm := bs_ hm; obtain ⟨⟨u1, u2, u3⟩, ho, hm⟩ := hm; have A2 := am_ ho; have EU := am_ (si_ hm); have c5b0 : ((z.length : Int) == 3) = true := beq_iff_eq.2 (by omega); have c5b1 : (z.length == 3) = true := beq_iff_eq.2 e2; obtain ⟨_, e0, hx0, hx1, hx2⟩ := at_T26 (Kd.R_reads' HO.out).2.2 1 (by omega) (by omega); cases e0
        (try rw [show ((0 : Int)).toNat = 0 from rfl] at hx0 hx1 hx2)
        (try rw [show 0 * 3 = 0 from rfl] at hx0 hx1 hx2)
        (try rw [Addr.add_zero'] at hx0 hx1 hx2)
        (try simp only [Addr.add, show ((1 : Int)).toNat * 3 = 3 from rfl, show ((3 : Nat) = 0) = False from eq_false (by decide), if_false] at hx0 hx1 hx2)
        have qi : (1 < z.length) = True := eq_true (by omega); have qj : ((1 : Int) < (z.length : Int)) = True := eq_true (by omega); clear ho hm ln e2; (first | rw [c5b0] | rw [c5b1] | (simp only [i64_w, i32_w]; rw [c5b0]) | skip)
        go_wp2_with (first | go_step3 | ((with_reducible refine gate_callee (f := 26) rfl ?_); refine goesL_ (some 49) rfl rfl Try.func26 (by kernel_rfl) rfl #[.agg #[.int .i64 (rd_T26 z 1).f0, .int .i64 (rd_T26 z 1).f1, .string (rd_T26 z 1).f2]] rfl goa_ ?_; (with_reducible refine (r07_Other.calls _ _ _ u1 u2 u3 _ A2.out).mono ?_); rintro e w13 ⟨rfl, hb⟩; refine ⟨_, rfl, ?_⟩; have n0_ := am_ (Sp.below (show Sp w _ b4 line_Four.Z by repeat (first | (with_reducible first | exact HX.out | apply Sp.drewN | apply Sp.drew | apply Sp.alloc))) hb); have n1_ : Aside0 (Row w w13 b4 (.slice (some ad) z.length cy) z) := ⟨Kd.R_below (row_ HO) hb⟩; clear HX HO hb; have HX := n0_; have HO := n1_; clear n0_ n1_) | ((with_reducible refine gate_builtin (b := .append) (xs := #[.tmp 45, .tmp 50]) rfl ?_); at_builtin; refine Kd.R_append k26 (w0 := w) w.heap.size rfl (.tmp 45) (.tmp 50) 57 26 (.agg #[(.int .i64 0), (.int .i64 0), (.string ⟨#[]⟩)]) 32 rfl Try.underlying57 info26 rfl (by decide) (by omega) (.slice (some ad) z.length cy) z (⟨u1, u2, u3⟩ : S26) [.int .i64 u1, .int .i64 u2, .string u3] (fun k => k ≠ b4) (fun _ => False) rfl rfl ?aP (fun _ hk => hk.elim) ?aF ?aO ?aB ?aS ?aL ?_; (case aP => exact k26_mkM _ _ _ (⟨u1, u2, u3⟩ : S26)); (case aB => exact (Sp.b (show Sp w _ b4 line_Four.Z by repeat (first | (with_reducible first | exact HX.out | apply Sp.drewN | apply Sp.drew | apply Sp.alloc))))); (case aF => exact (fun k hk => by have := blk_lt (Sp.s (show Sp w _ b4 line_Four.Z by repeat (first | (with_reducible first | exact HX.out | apply Sp.drewN | apply Sp.drew | apply Sp.alloc)))); omega)); (case aO => exact (row_ HO)); (case aS => exact (below_size (Sp.b (show Sp w _ b4 line_Four.Z by repeat (first | (with_reducible first | exact HX.out | apply Sp.drewN | apply Sp.drew | apply Sp.alloc)))))); (case aL => have := C4.out; omega); intro v2 w14 ho hb hg hat; have HG := am_ (HO.out.1 ad.block rfl); have n0_ := am_ (Sp.grown (show Sp w _ b4 line_Four.Z by repeat (first | (with_reducible first | exact HX.out | apply Sp.drewN | apply Sp.drew | apply Sp.alloc))) hg (fun e => HG.out (si_ e).symm) hb); clear HX HO; have HX := n0_; have HO : Aside0 (Row w w14 b4 v2 (z ++ [⟨u1, u2, u3⟩])) := ⟨ho⟩; clear n0_ ho hb hg hat HG))
        obtain ⟨ad2, cx, rfl⟩ := Kd.R_slice1 HO.out (by rw [List.length_append, List.length_singleton]; omega); go_meet
        case rel => rw [← EU.out]; exact ⟨ad2, cx, rfl, ⟨(show Sp w _ b4 line_Four.Z by repeat (first | (with_reducible first | exact HX.out | apply Sp.drewN | apply Sp.drew | apply Sp.alloc)))⟩, ⟨(row_ HO)⟩⟩
      have c5b0 : ((z.length : Int) == 3) = false := beq_eq_false_iff_ne.2 (by omega); have c5b1 : (z.length == 3) = false := beq_eq_false_iff_ne.2 e2; unfold step at hm; rw [if_neg e2] at hm; have EU := am_ (si_ hm); clear hm ln e2; (first | rw [c5b0] | rw [c5b1] | (simp only [i64_w, i32_w]; rw [c5b0]) | skip)
      go_wp2_with (first | go_step3)
      go_meet
      case rel => rw [← EU.out]; exact ⟨ad, cy, rfl, ⟨(show Sp w _ b4 line_Four.Z by repeat (first | (with_reducible first | exact HX.out | apply Sp.drewN | apply Sp.drew | apply Sp.alloc)))⟩, ⟨(row_ HO)⟩⟩
    clear HX HO hc0 hz0 hc1 hz1 hc2 hz2 hc3 hz3 hc4 hz4 hc5 hz5 hc6 hz6 hc7 hz7 hc8 hz8 hc9 hz9 hc10 hz10 hc11 hz11; obtain ⟨ad, cy, rfl, HX, HO⟩ := hcut; (obtain ⟨hc0, hc1, hc2, hc3, hc4, hc5, hc6, hc7, hc8, hc9, hc10, hc11⟩ := Sp.c HX.out; obtain ⟨hz0, hz1, hz2, hz3, hz4, hz5, hz6, hz7, hz8, hz9, hz10, hz11⟩ := Sp.f HX.out)
    go_upto_region 10 with (first | go_step3)
    refine at_ (fun w4 hw4 => ?_)
    have HX4 : Aside0 (Sp w w4.drew b4 line_Four.Z) := ⟨Sp.drew (by rw [hw4]; exact (show Sp w _ b4 line_Four.Z by repeat (first | (with_reducible first | exact HX.out | apply Sp.drewN | apply Sp.drew | apply Sp.alloc))))⟩
    have HO4 : Aside0 (Row w w4.drew b4 (.slice (some ad) x.length cy) x) := ⟨Kd.R_drew (by rw [hw4]; exact (row_ HO))⟩
    clear hw4 HX HO hc0 hz0 hc1 hz1 hc2 hz2 hc3 hz3 hc4 hz4 hc5 hz5 hc6 hz6 hc7 hz7 hc8 hz8 hc9 hz9 hc10 hz10 hc11 hz11; have hx2 := E2.out; refine start_ (n := 17) (S := (fun w' => Kd.C k26 w' (some ad) x.length x)) (ds := []) #[false, false, false, false, false, false, false, false, false, false, false, false, false, false, false, false, false] (by kernel_rfl) rfl rfl (Kd.R_reads' HO4.out).2.2 (fun hHeld => ?_)
    refine with_tabW Fourr.tab10 Fourr.bits10 (fun HT_ HW_ => ?_)
    generalize w4.drew = w5 at HX4 HO4 hHeld ⊢
    have qx0 : (0 < x.length) = True := eq_true (by omega); have qy0 : ((0 : Int) < (x.length : Int)) = True := eq_true (by omega); have qx1 : (1 < x.length) = True := eq_true (by omega); have qy1 : ((1 : Int) < (x.length : Int)) = True := eq_true (by omega); have qx2 : (2 < x.length) = True := eq_true (by omega); have qy2 : ((2 : Int) < (x.length : Int)) = True := eq_true (by omega); have qx3 : (3 < x.length) = True := eq_true (by omega); have qy3 : ((3 : Int) < (x.length : Int)) = True := eq_true (by omega); refine pus_ 0 (some 52) #[true, false, false, false, false, false, false, false, false, false, false, false, false, false, false, false, false] rfl rfl HT_.out ?_
    refine pus_ 1 (some 53) #[true, true, false, false, false, false, false, false, false, false, false, false, false, false, false, false, false] rfl rfl HT_.out ?_
    refine take_ (i := 2) (N := (some 54)) (v := ?_) (a' := ?_) #[true, true, true, false, false, false, false, false, false, false, false, false, false, false, false, false, false] rfl rfl (take_ofW HT_.out HW_.out (by kernel_rfl)) (fun _ _ _ h => h) (Or.inl ⟨by rfl, ?_⟩) hHeld ?_ ?_
    rotate_left
    ·rintro w' hS
     obtain ⟨_, e0, h0, h1, h2⟩ := at_T26 hS 0 (by omega) (by omega); cases e0
     (try rw [show ((0 : Int)).toNat = 0 from rfl] at h0 h1 h2)
     (try rw [show 0 * 3 = 0 from rfl] at h0 h1 h2)
     (try rw [Addr.add_zero'] at h0 h1 h2)
     (try simp only [Addr.add, show ((1 : Int)).toNat * 3 = 3 from rfl, show ((2 : Int)).toNat * 3 = 6 from rfl, show ((3 : Int)).toNat * 3 = 9 from rfl, show ((3 : Nat) = 0) = False from eq_false (by decide), show ((6 : Nat) = 0) = False from eq_false (by decide), show ((9 : Nat) = 0) = False from eq_false (by decide), if_false] at h0 h1 h2)
     go_simp
     with_reducible rfl
    rotate_left
    ·simp only [Act.put, List.setIfInBounds_toArray, List.set_cons_zero, List.set_cons_succ, i64_w, i32_w]; rfl
    refine pus_ 3 (some 55) #[true, true, true, true, false, false, false, false, false, false, false, false, false, false, false, false, false] rfl rfl HT_.out ?_
    refine pus_ 4 (some 56) #[true, true, true, true, true, false, false, false, false, false, false, false, false, false, false, false, false] rfl rfl HT_.out ?_
    refine take_ (i := 5) (N := (some 57)) (v := ?_) (a' := ?_) #[true, true, true, true, true, true, false, false, false, false, false, false, false, false, false, false, false] rfl rfl (take_ofW HT_.out HW_.out (by kernel_rfl)) (fun _ _ _ h => h) (Or.inl ⟨by rfl, ?_⟩) hHeld ?_ ?_
    rotate_left
    ·rintro w' hS
     obtain ⟨_, e0, h0, h1, h2⟩ := at_T26 hS 1 (by omega) (by omega); cases e0
     (try rw [show ((0 : Int)).toNat = 0 from rfl] at h0 h1 h2)
     (try rw [show 0 * 3 = 0 from rfl] at h0 h1 h2)
     (try rw [Addr.add_zero'] at h0 h1 h2)
     (try simp only [Addr.add, show ((1 : Int)).toNat * 3 = 3 from rfl, show ((2 : Int)).toNat * 3 = 6 from rfl, show ((3 : Int)).toNat * 3 = 9 from rfl, show ((3 : Nat) = 0) = False from eq_false (by decide), show ((6 : Nat) = 0) = False from eq_false (by decide), show ((9 : Nat) = 0) = False from eq_false (by decide), if_false] at h0 h1 h2)
     go_simp
     with_reducible rfl
    rotate_left
    ·simp only [Act.put, List.setIfInBounds_toArray, List.set_cons_zero, List.set_cons_succ, i64_w, i32_w]; rfl
    refine pus_ 6 (some 58) #[true, true, true, true, true, true, true, false, false, false, false, false, false, false, false, false, false] rfl rfl HT_.out ?_
    refine pus_ 7 (some 59) #[true, true, true, true, true, true, true, true, false, false, false, false, false, false, false, false, false] rfl rfl HT_.out ?_
    refine take_ (i := 8) (N := (some 60)) (v := ?_) (a' := ?_) #[true, true, true, true, true, true, true, true, true, false, false, false, false, false, false, false, false] rfl rfl (take_ofW HT_.out HW_.out (by kernel_rfl)) (fun _ _ _ h => h) (Or.inl ⟨by rfl, ?_⟩) hHeld ?_ ?_
    rotate_left
    ·rintro w' hS
     obtain ⟨_, e0, h0, h1, h2⟩ := at_T26 hS 2 (by omega) (by omega); cases e0
     (try rw [show ((0 : Int)).toNat = 0 from rfl] at h0 h1 h2)
     (try rw [show 0 * 3 = 0 from rfl] at h0 h1 h2)
     (try rw [Addr.add_zero'] at h0 h1 h2)
     (try simp only [Addr.add, show ((1 : Int)).toNat * 3 = 3 from rfl, show ((2 : Int)).toNat * 3 = 6 from rfl, show ((3 : Int)).toNat * 3 = 9 from rfl, show ((3 : Nat) = 0) = False from eq_false (by decide), show ((6 : Nat) = 0) = False from eq_false (by decide), show ((9 : Nat) = 0) = False from eq_false (by decide), if_false] at h0 h1 h2)
     go_simp
     with_reducible rfl
    rotate_left
    ·simp only [Act.put, List.setIfInBounds_toArray, List.set_cons_zero, List.set_cons_succ, i64_w, i32_w]; rfl
    refine pus_ 9 (some 61) #[true, true, true, true, true, true, true, true, true, true, false, false, false, false, false, false, false] rfl rfl HT_.out ?_
    refine pus_ 10 (some 62) #[true, true, true, true, true, true, true, true, true, true, true, false, false, false, false, false, false] rfl rfl HT_.out ?_
    refine take_ (i := 11) (N := (some 63)) (v := ?_) (a' := ?_) #[true, true, true, true, true, true, true, true, true, true, true, true, false, false, false, false, false] rfl rfl (take_ofW HT_.out HW_.out (by kernel_rfl)) (fun _ _ _ h => h) (Or.inl ⟨by rfl, ?_⟩) hHeld ?_ ?_
    rotate_left
    ·rintro w' hS
     obtain ⟨_, e0, h0, h1, h2⟩ := at_T26 hS 3 (by omega) (by omega); cases e0
     (try rw [show ((0 : Int)).toNat = 0 from rfl] at h0 h1 h2)
     (try rw [show 0 * 3 = 0 from rfl] at h0 h1 h2)
     (try rw [Addr.add_zero'] at h0 h1 h2)
     (try simp only [Addr.add, show ((1 : Int)).toNat * 3 = 3 from rfl, show ((2 : Int)).toNat * 3 = 6 from rfl, show ((3 : Int)).toNat * 3 = 9 from rfl, show ((3 : Nat) = 0) = False from eq_false (by decide), show ((6 : Nat) = 0) = False from eq_false (by decide), show ((9 : Nat) = 0) = False from eq_false (by decide), if_false] at h0 h1 h2)
     go_simp
     with_reducible rfl
    rotate_left
    ·simp only [Act.put, List.setIfInBounds_toArray, List.set_cons_zero, List.set_cons_succ, i64_w, i32_w]; rfl
    refine pus_ 12 (some 64) #[true, true, true, true, true, true, true, true, true, true, true, true, true, false, false, false, false] rfl rfl HT_.out ?_
    refine pus_ 13 (some 65) #[true, true, true, true, true, true, true, true, true, true, true, true, true, true, false, false, false] rfl rfl HT_.out ?_
    obtain ⟨hz0, hz1, hz2, hz3, hz4, hz5, hz6, hz7, hz8, hz9, hz10, hz11⟩ := Sp.f HX4.out; obtain ⟨hc0, hc1, hc2, hc3, hc4, hc5, hc6, hc7, hc8, hc9, hc10, hc11⟩ := Sp.c HX4.out; have HX5 := am_ (Sp.sets HX4.out (.int .i64 (rd_T26 x 0).f0) (.int .i64 (rd_T26 x 0).f1) (.string (rd_T26 x 0).f2) (.int .i64 (rd_T26 x 1).f0) (.int .i64 (rd_T26 x 1).f1) (.string (rd_T26 x 1).f2) (.int .i64 (rd_T26 x 2).f0) (.int .i64 (rd_T26 x 2).f1) (.string (rd_T26 x 2).f2) (.int .i64 (rd_T26 x 3).f0) (.int .i64 (rd_T26 x 3).f1) (.string (rd_T26 x 3).f2)); have HO5 := am_ (Row.sets HO4.out (.int .i64 (rd_T26 x 0).f0) (.int .i64 (rd_T26 x 0).f1) (.string (rd_T26 x 0).f2) (.int .i64 (rd_T26 x 1).f0) (.int .i64 (rd_T26 x 1).f1) (.string (rd_T26 x 1).f2) (.int .i64 (rd_T26 x 2).f0) (.int .i64 (rd_T26 x 2).f1) (.string (rd_T26 x 2).f2) (.int .i64 (rd_T26 x 3).f0) (.int .i64 (rd_T26 x 3).f1) (.string (rd_T26 x 3).f2)); refine one_ (i := 14) (N := none) #[true, true, true, true, true, true, true, true, true, true, true, true, true, true, true, false, false] rfl rfl (one_of HT_.out (by kernel_rfl)) (by decide) (fun K hK => ?_)
    refine skip_ (w1 := ?_) (by rfl) rfl ?_ ?_
    rotate_left
    ·go_simp
     rfl
    refine hK.out _ _ (Kd.R_reads' HO5.out).2.2 (fun hHeld => ?_)
    clear hK K; refine pus_ 15 (some 5) #[true, true, true, true, true, true, true, true, true, true, true, true, true, true, true, true, false] rfl rfl HT_.out ?_
    refine pus_ 16 (some 6) #[true, true, true, true, true, true, true, true, true, true, true, true, true, true, true, true, true] rfl rfl HT_.out ?_
    refine done_ (done_of HT_.out (by kernel_rfl)) ?_
    go_wp2; (try (rw [Exit.noGoto_ret]; try dsimp only [Exit.inBlock, Exit.then]))
    refine bodyPost_ret (results_list (rs := [.cell 4 36, .tmp 5, .tmp 6]) rfl (by simp) (.cell b4 36 #[(.int .i64 (rd_T26 x 0).f0), (.int .i64 (rd_T26 x 0).f1), (.string (rd_T26 x 0).f2), (.int .i64 (rd_T26 x 1).f0), (.int .i64 (rd_T26 x 1).f1), (.string (rd_T26 x 1).f2), (.int .i64 (rd_T26 x 2).f0), (.int .i64 (rd_T26 x 2).f1), (.string (rd_T26 x 2).f2), (.int .i64 (rd_T26 x 3).f0), (.int .i64 (rd_T26 x 3).f1), (.string (rd_T26 x 3).f2)] (0, 0) _ rfl HX5.out.s Try.underlying36 rfl (by kernel_rfl) (.tmp (.tmp .nil)))) rfl ?_
    exact ⟨rsl_, HX5.out.b⟩
  rw [if_neg e0] at h; have q0 : (t3 != 0) = true := bne_iff_ne.2 e0; clear e0; simp only [Option.some.injEq, Prod.mk.injEq] at h; obtain ⟨rfl, rfl, rfl, rfl, rfl, rfl, rfl, rfl, rfl, rfl, rfl, rfl, rfl, rfl⟩ := h; go_enter Try.func11, Try.ntmps11
  go_wp2_with (first | go_step3 | ((with_reducible refine gate_dst (N := 4) rfl ?_); refine box_event ?hg (N := 4) ?hd (cs := line_Four.Z) (t := 36) ?hr ?_; (case hd => rfl); (case hg => rfl); (case hr => first | (go_simp; done) | (go_simp; rfl)); intro b4 hg w2 hbox hb; have HX : Aside0 (Sp w w2 b4 line_Four.Z) := ⟨⟨hbox, below_step bel_ hb, (bsz_ hg : w.heap.size ≤ b4)⟩⟩; clear HB hb hbox hg) | ((with_reducible refine gate_callee (f := 25) rfl ?_); refine goesL_ (some 13) rfl rfl Try.func25 (by kernel_rfl) rfl #[.slice A0 l0.length c0, .int .i64 a1, .int .i64 4] rfl goa_ ?_; (with_reducible refine (r07_Lines.calls k _ _ l0 a1 4 t1 t2 t3 _ ?side1 ?side2 A1.out).mono ?_); (case side1 => exact Kd.C_below HR.out (show Sp w _ b4 line_Four.Z by repeat (first | (with_reducible first | exact HX.out | apply Sp.drewN | apply Sp.drew | apply Sp.alloc))).b); (case side2 => exact HC.out); rintro e w10 ⟨v, rfl, ho0, hb⟩; refine ⟨_, rfl, ?_⟩; have HO : Aside0 (Row w w10 b4 v t1) := ⟨Kd.R_mono (Kd.R_lower (Kd.R_newB ho0 (g := b4) (show Sp w _ b4 line_Four.Z by repeat (first | (with_reducible first | exact HX.out | apply Sp.drewN | apply Sp.drew | apply Sp.alloc))).s) (below_size (show Sp w _ b4 line_Four.Z by repeat (first | (with_reducible first | exact HX.out | apply Sp.drewN | apply Sp.drew | apply Sp.alloc))).b)) (fun _ hk => hk.2)⟩; have n0_ := am_ (Sp.below (show Sp w _ b4 line_Four.Z by repeat (first | (with_reducible first | exact HX.out | apply Sp.drewN | apply Sp.drew | apply Sp.alloc))) hb); clear HX hb ho0; have HX := n0_; clear n0_; obtain ⟨Ao, cv, eo⟩ := Kd.R_slice HO.out; subst eo; obtain ⟨hc0, hc1, hc2, hc3, hc4, hc5, hc6, hc7, hc8, hc9, hc10, hc11⟩ := Sp.c HX.out; obtain ⟨hz0, hz1, hz2, hz3, hz4, hz5, hz6, hz7, hz8, hz9, hz10, hz11⟩ := Sp.f HX.out))
  have HX5 := am_ (Sp.sets (show Sp w _ b4 line_Four.Z by repeat (first | (with_reducible first | exact HX.out | apply Sp.drewN | apply Sp.drew | apply Sp.alloc))) (.int .i64 0) (.int .i64 0) (.string (⟨#[]⟩ : ByteArray)) (.int .i64 0) (.int .i64 0) (.string (⟨#[]⟩ : ByteArray)) (.int .i64 0) (.int .i64 0) (.string (⟨#[]⟩ : ByteArray)) (.int .i64 0) (.int .i64 0) (.string (⟨#[]⟩ : ByteArray))); refine bodyPost_ret (results_list (rs := [.cell 4 36, .tmp 5, .tmp 6]) rfl (by simp) (.cell b4 36 #[(.int .i64 0), (.int .i64 0), (.string (⟨#[]⟩ : ByteArray)), (.int .i64 0), (.int .i64 0), (.string (⟨#[]⟩ : ByteArray)), (.int .i64 0), (.int .i64 0), (.string (⟨#[]⟩ : ByteArray)), (.int .i64 0), (.int .i64 0), (.string (⟨#[]⟩ : ByteArray))] (0, 0) _ rfl HX5.out.s Try.underlying36 rfl (by kernel_rfl) (.tmp (.tmp .nil)))) rfl ?_
  exact ⟨rsl_, HX5.out.b⟩
end r07_Four
end Go.Proofs.Ytofdhdafabmhmaa.Giv
end
section
namespace Go.Proofs.Ytofdhdafabmhmaa.PLr
open Go.RowKit Go.Proofs.YtofdhdafabmhmaaW.PrintWords Go.Proofs.YtofdhdafabmhmaaW.PrintLast Go.Proofs.YtofdhdafabmhmaaW.PrintMore
attribute [local go_sem] max2_int min2_int max_two min_two max_three min_three max_four min_four
open Go.Proofs.Ytofdhdafabmhmaa.Opn Go.Proofs.Ytofdhdafabmhmaa.Giv
set_option maxRecDepth 100000

attribute [local go_sem high] eqA26 eqA36
/-! ### parterrelaw07_LineReads: function 3 -/
mutual
def parterrelaw07_LineReads.j0 : Nat → List (S43) → Int → Bool → Option (Bool)
 | 0, _, _, _ => none
 | k + 1, x0, x1, x47 => if x47 = true then (none) else ((line_Pair.f k x0 x1).bind fun bt431 => ((r07_Pair.f k x0 x1).bind fun bt441 => (if (!(bt431.1 == bt441.1) || (!(bt431.2.1 == bt441.2.1) || (!(bt431.2.2.1.toList == bt441.2.2.1.toList)))) = true then (parterrelaw07_LineReads.j1 k x0 x1 true) else (if (!(bt431.2.2.2.1 == bt441.2.2.2.1) || (!(bt431.2.2.2.2.1 == bt441.2.2.2.2.1) || (!(bt431.2.2.2.2.2.1.toList == bt441.2.2.2.2.2.1.toList)))) = true then (parterrelaw07_LineReads.j1 k x0 x1 true) else (if bt431.2.2.2.2.2.2.1 = bt441.2.2.2.2.2.2.1 then (parterrelaw07_LineReads.j1 k x0 x1 (bt431.2.2.2.2.2.2.2 != bt441.2.2.2.2.2.2.2)) else (parterrelaw07_LineReads.j1 k x0 x1 true))))))
def parterrelaw07_LineReads.j1 : Nat → List (S43) → Int → Bool → Option (Bool)
 | 0, _, _, _ => none
 | k + 1, x0, x1, x81 => if x81 = true then (none) else ((line_Four.f k x0 x1).bind fun bt451 => ((r07_Four.f k x0 x1).bind fun bt466 => (if ((bt451.1 == bt466.1 && (bt451.2.1 == bt466.2.1 && (bt451.2.2.1.toList == bt466.2.2.1.toList))) && ((bt451.2.2.2.1 == bt466.2.2.2.1 && (bt451.2.2.2.2.1 == bt466.2.2.2.2.1 && (bt451.2.2.2.2.2.1.toList == bt466.2.2.2.2.2.1.toList))) && ((bt451.2.2.2.2.2.2.1 == bt466.2.2.2.2.2.2.1 && (bt451.2.2.2.2.2.2.2.1 == bt466.2.2.2.2.2.2.2.1 && (bt451.2.2.2.2.2.2.2.2.1.toList == bt466.2.2.2.2.2.2.2.2.1.toList))) && ((bt451.2.2.2.2.2.2.2.2.2.1 == bt466.2.2.2.2.2.2.2.2.2.1 && (bt451.2.2.2.2.2.2.2.2.2.2.1 == bt466.2.2.2.2.2.2.2.2.2.2.1 && (bt451.2.2.2.2.2.2.2.2.2.2.2.1.toList == bt466.2.2.2.2.2.2.2.2.2.2.2.1.toList))))))) = true then (if bt451.2.2.2.2.2.2.2.2.2.2.2.2.1 = bt466.2.2.2.2.2.2.2.2.2.2.2.2.1 then (if bt451.2.2.2.2.2.2.2.2.2.2.2.2.2 = bt466.2.2.2.2.2.2.2.2.2.2.2.2.2 then ((parterrelaw07_lives.f k).bind fun t481 => (some t481)) else (none)) else (none)) else (none))))
end
def parterrelaw07_LineReads.f (k : Nat) (l0 : List (S43)) (a1 : Int) : Option (Bool) := (parterrelaw07_few.f k l0).bind fun t417 => (if t417 = true then ((line_Read.f k l0 a1).bind fun bt419 => ((r07_Read.f k l0 a1).bind fun bt425 => (if (!(bt419.1 == bt425.1) || (!(bt419.2.1 == bt425.2.1) || (!(bt419.2.2.1.toList == bt425.2.2.1.toList)))) = true then (parterrelaw07_LineReads.j0 k l0 a1 true) else (if bt419.2.2.2.1 = bt425.2.2.2.1 then (parterrelaw07_LineReads.j0 k l0 a1 (bt419.2.2.2.2 != bt425.2.2.2.2)) else (parterrelaw07_LineReads.j0 k l0 a1 true))))) else ((parterrelaw07_lives.f k).bind fun t418 => (some t418)))
theorem parterrelaw07_LineReads.mono_l : ∀ k, (∀ y0 y1 y2, LeO (parterrelaw07_LineReads.j0 k y0 y1 y2) (parterrelaw07_LineReads.j0 (k + 1) y0 y1 y2)) ∧ (∀ y0 y1 y2, LeO (parterrelaw07_LineReads.j1 k y0 y1 y2) (parterrelaw07_LineReads.j1 (k + 1) y0 y1 y2))
 | 0 => ⟨fun _ _ _ r h => by simp [parterrelaw07_LineReads.j0] at h, fun _ _ _ r h => by simp [parterrelaw07_LineReads.j1] at h⟩
 | k + 1 => by
  obtain ⟨ih0, ih1⟩ := parterrelaw07_LineReads.mono_l k; refine ⟨?_, ?_⟩
  ·intro y0 y1 y2; unfold parterrelaw07_LineReads.j0; repeat' first
   | (with_reducible exact ih0 _ _ _)
   | (with_reducible exact ih1 _ _ _)
   | (with_reducible exact line_Four.mono _ _ _)
   | (with_reducible exact line_Pair.mono _ _ _)
   | (with_reducible exact line_Read.mono _ _ _)
   | (with_reducible exact parterrelaw07_few.mono _ _)
   | (with_reducible exact parterrelaw07_lives.mono _)
   | (with_reducible exact r07_Four.mono _ _ _)
   | (with_reducible exact r07_Pair.mono _ _ _)
   | (with_reducible exact r07_Read.mono _ _ _)
   | (with_reducible first | exact LeO.refl _ | exact LeO.none _ | refine LeO.ite ?_ ?_ | refine LeO.bind ?_ (fun _ => ?_))
  intro y0 y1 y2; unfold parterrelaw07_LineReads.j1; repeat' first
  | (with_reducible exact ih0 _ _ _)
  | (with_reducible exact ih1 _ _ _)
  | (with_reducible exact line_Four.mono _ _ _)
  | (with_reducible exact line_Pair.mono _ _ _)
  | (with_reducible exact line_Read.mono _ _ _)
  | (with_reducible exact parterrelaw07_few.mono _ _)
  | (with_reducible exact parterrelaw07_lives.mono _)
  | (with_reducible exact r07_Four.mono _ _ _)
  | (with_reducible exact r07_Pair.mono _ _ _)
  | (with_reducible exact r07_Read.mono _ _ _)
  | (with_reducible first | exact LeO.refl _ | exact LeO.none _ | refine LeO.ite ?_ ?_ | refine LeO.bind ?_ (fun _ => ?_))
theorem parterrelaw07_LineReads.mono : ∀ a0 a1 k, LeO (parterrelaw07_LineReads.f k a0 a1) (parterrelaw07_LineReads.f (k + 1) a0 a1) := by
 intro a0 a1 k; obtain ⟨ih0, ih1⟩ := parterrelaw07_LineReads.mono_l k; unfold parterrelaw07_LineReads.f; repeat' first
   | (with_reducible exact ih0 _ _ _)
   | (with_reducible exact ih1 _ _ _)
   | (with_reducible exact line_Four.mono _ _ _)
   | (with_reducible exact line_Pair.mono _ _ _)
   | (with_reducible exact line_Read.mono _ _ _)
   | (with_reducible exact parterrelaw07_few.mono _ _)
   | (with_reducible exact parterrelaw07_lives.mono _)
   | (with_reducible exact r07_Four.mono _ _ _)
   | (with_reducible exact r07_Pair.mono _ _ _)
   | (with_reducible exact r07_Read.mono _ _ _)
   | (with_reducible first | exact LeO.refl _ | exact LeO.none _ | refine LeO.ite ?_ ?_ | refine LeO.bind ?_ (fun _ => ?_))
set_option maxHeartbeats 8000000 in
theorem parterrelaw07_LineReads.calls (k : Nat) (A0 : Option Addr) (c0 : Nat) (l0 : List (S43)) (a1 : Int) (r : Bool) (w : World) (hr0 : Kd.C k43 w A0 l0.length l0) (hc0 : l0.length ≤ c0) (h : parterrelaw07_LineReads.f k l0 a1 = some r) :
  Calls Try.prog 3 #[.slice A0 l0.length c0, .int .i64 a1] w fun e w' => e = .returned (.bool r) ∧ Below w.heap.size w w' := by
 have hu26 := Try.underlying26; have hu36 := Try.underlying36; have HR0 := am_ hr0; have HC0 := am_ hc0; clear hr0 hc0; have HB := am_ (Below.refl w.heap.size w); have H : ((parterrelaw07_few.f k l0).bind fun t417 => (if t417 = true then ((line_Read.f k l0 a1).bind fun bt419 => ((r07_Read.f k l0 a1).bind fun bt425 => (if (!(bt419.1 == bt425.1) || (!(bt419.2.1 == bt425.2.1) || (!(bt419.2.2.1.toList == bt425.2.2.1.toList)))) = true then (parterrelaw07_LineReads.j0 k l0 a1 true) else (if bt419.2.2.2.1 = bt425.2.2.2.1 then (parterrelaw07_LineReads.j0 k l0 a1 (bt419.2.2.2.2 != bt425.2.2.2.2)) else (parterrelaw07_LineReads.j0 k l0 a1 true))))) else ((parterrelaw07_lives.f k).bind fun t418 => (some t418)))) = some r := h; clear h; replace H := bs_ H; obtain ⟨t417, A30, H⟩ := H; try dsimp only at H
 have A3 := am_ A30; clear A30; by_cases c4 : t417 = true
 ·subst c4; rw [if_pos rfl] at H; replace H := bs_ H; obtain ⟨⟨t419, t420, t421, t422, t423⟩, A50, H⟩ := H; try dsimp only at H
  have A5 := am_ A50; clear A50; replace H := bs_ H; obtain ⟨⟨t425, t426, t427, t428, t429⟩, A60, H⟩ := H; try dsimp only at H
  have A6 := am_ A60; clear A60; have HC7 := am_ H; clear H; go_enter Try.func3, Try.ntmps3
  go_upto_region 5 with (first | ((with_reducible refine gate_callee (f := 4) rfl ?_); refine goesL_ (some 18) rfl rfl Try.func4 (by kernel_rfl) rfl #[.slice A0 l0.length c0] rfl goa_ ?_; (with_reducible refine (parterrelaw07_few.calls k _ _ l0 true _ ?side1 ?side2 A3.out).mono ?_); (case side1 => exact cin_); (case side2 => exact HC0.out); rintro e w8 ⟨rfl, hb⟩; refine ⟨_, rfl, ?_⟩; replace HB := am_ (below_step bel_ hb); clear hb) | ((with_reducible refine gate_callee (f := 6) rfl ?_); refine goesL_ (some 24) rfl rfl Try.func6 (by kernel_rfl) rfl #[.slice A0 l0.length c0, .int .i64 a1] rfl goa_ ?_; (with_reducible refine (line_Read.calls k _ _ l0 a1 t419 t420 t421 t422 t423 _ ?side1 ?side2 A5.out).mono ?_); (case side1 => exact cin_); (case side2 => exact HC0.out); rintro e w9 ⟨rfl, hb⟩; refine ⟨_, rfl, ?_⟩; replace HB := am_ (below_step bel_ hb); clear hb) | ((with_reducible refine gate_dst (N := 5) rfl ?_); refine box_event ?hg (N := 5) ?hd (cs := #[.int .i64 0, .int .i64 0, .string (⟨#[]⟩ : ByteArray)]) (t := 26) ?hr ?_; (case hd => rfl); (case hg => rfl); (case hr => first | (go_simp; done) | (go_simp; rfl)); intro gb424 hg w10 hbox hb; have BK424 := am_ (hbox); have GW424 := am_ ((bsz_ hg : w.heap.size ≤ gb424)); have GE424 := am_ ((bsz_ hg : w.heap.size ≤ gb424)); replace HB := am_ (below_step bel_ hb); clear hb hbox hg; obtain ⟨hcz11_0, hcz11_1, hcz11_2⟩ := c3_ BK424; obtain ⟨hfz11_0, hfz11_1, hfz11_2⟩ := f3_ BK424) | ((with_reducible refine gate_callee (f := 7) rfl ?_); refine goesL_ (some 31) rfl rfl Try.func7 (by kernel_rfl) rfl #[.slice A0 l0.length c0, .int .i64 a1] rfl goa_ ?_; (with_reducible refine (r07_Read.calls k _ _ l0 a1 t425 t426 t427 t428 t429 _ ?side1 ?side2 A6.out).mono ?_); (case side1 => exact Kd.C_below HR0.out bel_); (case side2 => exact HC0.out); rintro e w12 ⟨rfl, hb⟩; refine ⟨_, rfl, ?_⟩; replace BK424 := am_ (blk_below (g := gb424) (o := .cells #[.int .i64 t419, .int .i64 t420, .string t421] 26 (0, 0)) (bch_) hb); replace HB := am_ (below_step bel_ hb); clear hb) | ((with_reducible refine gate_dst (N := 8) rfl ?_); refine box_event ?hg (N := 8) ?hd (cs := #[.int .i64 0, .int .i64 0, .string (⟨#[]⟩ : ByteArray)]) (t := 26) ?hr ?_; (case hd => rfl); (case hg => rfl); (case hr => first | (go_simp; done) | (go_simp; rfl)); intro gb430 hg w13 hbox hb; have BK430 := am_ (hbox); have GW430 := am_ ((bsz_ hg : w.heap.size ≤ gb430)); have GE430 := am_ ((bsz_ hg : w.heap.size ≤ gb430)); have NB424_430 := am_ (bne_ BK424 hg : gb424 ≠ gb430); have NB430_424 := am_ (bng_ BK424 hg : gb430 ≠ gb424); replace BK424 := blb_ BK424 hb; replace HB := am_ (below_step bel_ hb); clear hb hbox hg; have hnb14 := NB430_424.out; have hnc14 := NB424_430.out; obtain ⟨hcz15_0, hcz15_1, hcz15_2⟩ := c3_ BK430; obtain ⟨hfz15_0, hfz15_1, hfz15_2⟩ := f3_ BK430))
  (try simp only [Act.put, List.setIfInBounds_toArray, List.set_cons_zero, List.set_cons_succ])
  go_cut [47] (fun v47 wc => ∃ (kq : Nat) (x47_6 : Bool), v47 = .bool x47_6 ∧ Aside0 (parterrelaw07_LineReads.j0 kq l0 a1 x47_6 = some r) ∧ Aside0 (kq ≤ k) ∧ Aside0 (wc.heap[gb424]? = some (.cells #[.int .i64 t419, .int .i64 t420, .string t421] 26 (0, 0))) ∧ Aside0 (wc.heap[gb430]? = some (.cells #[.int .i64 t425, .int .i64 t426, .string t427] 26 (0, 0))) ∧ Aside0 (Below w.heap.size w wc))
  case first =>
   have H := HC7.out; clear HC7; by_cases c16 : (!(t419 == t425) || (!(t420 == t426) || (!(t421.toList == t427.toList)))) = true
   ·rw [if_pos c16] at H; have c16b0 : (!(t419 == t425) || (!(t420 == t426) || (!(t421.toList == t427.toList)))) = true := c16; clear c16; (first | rw [c16b0] | (simp only [i64_w, i32_w]; rw [c16b0]) | skip)
    have H' := am_ H; clear H; have hnb17 := NB424_430.out; have hnc17 := NB430_424.out; obtain ⟨hcz18_0, hcz18_1, hcz18_2⟩ := c3_ BK424; obtain ⟨hfz18_0, hfz18_1, hfz18_2⟩ := f3_ BK424; obtain ⟨hcz19_0, hcz19_1, hcz19_2⟩ := c3_ BK430; obtain ⟨hfz19_0, hfz19_1, hfz19_2⟩ := f3_ BK430; go_wp2; go_meet
    case rel => exact ⟨_, (true), rfs_, (by first | exact H' | (subst_vars; exact H')), ⟨ole_⟩, ⟨bch_⟩, ⟨bch_⟩, ⟨bel_⟩⟩
   rw [if_neg c16] at H; have c16b0 : (!(t419 == t425) || (!(t420 == t426) || (!(t421.toList == t427.toList)))) = false := by simpa using c16
   clear c16; (first | rw [c16b0] | (simp only [i64_w, i32_w]; rw [c16b0]) | skip)
   by_cases c20 : t422 = t428
   ·rw [if_pos c20] at H; have c20b0 : (t422 == t428) = true := beq_iff_eq.mpr c20; have c20b1 : (t422 != t428) = false := bne_eq_false_iff_eq.mpr c20; clear c20; have H' := am_ H; clear H; have hnb21 := NB424_430.out; have hnc21 := NB430_424.out; obtain ⟨hcz22_0, hcz22_1, hcz22_2⟩ := c3_ BK424; obtain ⟨hfz22_0, hfz22_1, hfz22_2⟩ := f3_ BK424; obtain ⟨hcz23_0, hcz23_1, hcz23_2⟩ := c3_ BK430; obtain ⟨hfz23_0, hfz23_1, hfz23_2⟩ := f3_ BK430; go_wp2; go_meet
    case rel => exact ⟨_, ((t423 != t429)), rfs_, (by first | exact H' | (subst_vars; exact H')), ⟨ole_⟩, ⟨bch_⟩, ⟨bch_⟩, ⟨bel_⟩⟩
   rw [if_neg c20] at H; have c20b0 : (t422 == t428) = false := beq_eq_false_iff_ne.mpr c20; have c20b1 : (t422 != t428) = true := bne_iff_ne.mpr c20; have H' := am_ H; clear H; have hnb24 := NB424_430.out; have hnc24 := NB430_424.out; obtain ⟨hcz25_0, hcz25_1, hcz25_2⟩ := c3_ BK424; obtain ⟨hfz25_0, hfz25_1, hfz25_2⟩ := f3_ BK424; obtain ⟨hcz26_0, hcz26_1, hcz26_2⟩ := c3_ BK430; obtain ⟨hfz26_0, hfz26_1, hfz26_2⟩ := f3_ BK430; go_wp2; go_meet
   case rel => exact ⟨_, (true), rfs_, (by first | exact H' | (subst_vars; exact H')), ⟨ole_⟩, ⟨bch_⟩, ⟨bch_⟩, ⟨bel_⟩⟩
  clear HC7; try clear c4
  try clear hcz11_0
  try clear hcz11_1
  try clear hcz11_2
  try clear hcz15_0
  try clear hcz15_1
  try clear hcz15_2
  try clear hfz11_0
  try clear hfz11_1
  try clear hfz11_2
  try clear hfz15_0
  try clear hfz15_1
  try clear hfz15_2
  obtain ⟨kq, x47_6, rfl, HA, HJ6, BK424, BK430, HB⟩ := hcut
  cases kq with
  | zero => exact absurd HA.out (by simp [parterrelaw07_LineReads.j0])
  | succ kj6 =>
   have H := HA.out; clear HA; simp only [parterrelaw07_LineReads.j0] at H; by_cases c27 : x47_6 = true
   ·subst c27; rw [if_pos rfl] at H; exact absurd H (by simp)
   replace c27 := Bool.eq_false_iff.mpr c27; subst c27; rw [if_neg (show ¬ (false = true) by decide)] at H; replace H := bs_ H; obtain ⟨⟨t431, t432, t433, t434, t435, t436, t437, t438⟩, A280, H⟩ := H; try dsimp only at H
   have A28 := am_ A280; clear A280; replace H := bs_ H; obtain ⟨⟨t441, t442, t443, t444, t445, t446, t447, t448⟩, A290, H⟩ := H; try dsimp only at H
   have A29 := am_ A290; clear A290; have HC30 := am_ H; clear H; go_upto_region 9 with (first | ((with_reducible refine gate_callee (f := 8) rfl ?_); refine goesL_ (some 51) rfl rfl Try.func8 (by kernel_rfl) rfl #[.slice A0 l0.length c0, .int .i64 a1] rfl goa_ ?_; (with_reducible refine (line_Pair.calls kj6 _ _ l0 a1 t431 t432 t433 t434 t435 t436 t437 t438 _ ?side1 ?side2 A28.out).mono ?_); (case side1 => exact cin_); (case side2 => exact HC0.out); rintro e w31 ⟨rfl, hb⟩; refine ⟨_, rfl, ?_⟩; replace BK424 := blb_ BK424 hb; replace BK430 := blb_ BK430 hb; replace HB := am_ (below_step bel_ hb); clear hb) | ((with_reducible refine gate_dst (N := 11) rfl ?_); refine box_event ?hg (N := 11) ?hd (cs := #[.int .i64 0, .int .i64 0, .string (⟨#[]⟩ : ByteArray)]) (t := 26) ?hr ?_; (case hd => rfl); (case hg => rfl); (case hr => first | (go_simp; done) | (go_simp; rfl)); intro gb439 hg w32 hbox hb; have BK439 := am_ (hbox); have GW439 := am_ ((bsz_ hg : w.heap.size ≤ gb439)); have GE439 := am_ ((bsz_ hg : w.heap.size ≤ gb439)); have NB424_439 := am_ (bne_ BK424 hg : gb424 ≠ gb439); have NB439_424 := am_ (bng_ BK424 hg : gb439 ≠ gb424); have NB430_439 := am_ (bne_ BK430 hg : gb430 ≠ gb439); have NB439_430 := am_ (bng_ BK430 hg : gb439 ≠ gb430); replace BK424 := blb_ BK424 hb; replace BK430 := blb_ BK430 hb; replace HB := am_ (below_step bel_ hb); clear hb hbox hg) | ((with_reducible refine gate_dst (N := 12) rfl ?_); refine box_event ?hg (N := 12) ?hd (cs := #[.int .i64 0, .int .i64 0, .string (⟨#[]⟩ : ByteArray)]) (t := 26) ?hr ?_; (case hd => rfl); (case hg => rfl); (case hr => first | (go_simp; done) | (go_simp; rfl)); intro gb440 hg w33 hbox hb; have BK440 := am_ (hbox); have GW440 := am_ ((bsz_ hg : w.heap.size ≤ gb440)); have GE440 := am_ ((bsz_ hg : w.heap.size ≤ gb440)); have NB424_440 := am_ (bne_ BK424 hg : gb424 ≠ gb440); have NB440_424 := am_ (bng_ BK424 hg : gb440 ≠ gb424); have NB430_440 := am_ (bne_ BK430 hg : gb430 ≠ gb440); have NB440_430 := am_ (bng_ BK430 hg : gb440 ≠ gb430); have NB439_440 := am_ (bne_ BK439 hg : gb439 ≠ gb440); have NB440_439 := am_ (bng_ BK439 hg : gb440 ≠ gb439); replace BK424 := blb_ BK424 hb; replace BK430 := blb_ BK430 hb; replace BK439 := blb_ BK439 hb; replace HB := am_ (below_step bel_ hb); clear hb hbox hg; have hnb34 := NB439_424.out; have hnc34 := NB424_439.out; have hnb35 := NB439_430.out; have hnc35 := NB430_439.out; have hnb36 := NB439_440.out; have hnc36 := NB440_439.out; obtain ⟨hcz37_0, hcz37_1, hcz37_2⟩ := c3_ BK439; obtain ⟨hfz37_0, hfz37_1, hfz37_2⟩ := f3_ BK439; have hnb38 := NB440_424.out; have hnc38 := NB424_440.out; have hnb39 := NB440_430.out; have hnc39 := NB430_440.out; obtain ⟨hcz40_0, hcz40_1, hcz40_2⟩ := c3_ BK440; obtain ⟨hfz40_0, hfz40_1, hfz40_2⟩ := f3_ BK440) | ((with_reducible refine gate_callee (f := 9) rfl ?_); refine goesL_ (some 59) rfl rfl Try.func9 (by kernel_rfl) rfl #[.slice A0 l0.length c0, .int .i64 a1] rfl goa_ ?_; (with_reducible refine (r07_Pair.calls kj6 _ _ l0 a1 t441 t442 t443 t444 t445 t446 t447 t448 _ ?side1 ?side2 A29.out).mono ?_); (case side1 => exact Kd.C_below HR0.out bel_); (case side2 => exact HC0.out); rintro e w41 ⟨rfl, hb⟩; refine ⟨_, rfl, ?_⟩; replace BK424 := am_ (blk_below (g := gb424) (o := .cells #[.int .i64 t419, .int .i64 t420, .string t421] 26 (0, 0)) (bch_) hb); replace BK430 := am_ (blk_below (g := gb430) (o := .cells #[.int .i64 t425, .int .i64 t426, .string t427] 26 (0, 0)) (bch_) hb); replace BK439 := am_ (blk_below (g := gb439) (o := .cells #[.int .i64 t431, .int .i64 t432, .string t433] 26 (0, 0)) (bch_) hb); replace BK440 := am_ (blk_below (g := gb440) (o := .cells #[.int .i64 t434, .int .i64 t435, .string t436] 26 (0, 0)) (bch_) hb); replace HB := am_ (below_step bel_ hb); clear hb) | ((with_reducible refine gate_dst (N := 13) rfl ?_); refine box_event ?hg (N := 13) ?hd (cs := #[.int .i64 0, .int .i64 0, .string (⟨#[]⟩ : ByteArray)]) (t := 26) ?hr ?_; (case hd => rfl); (case hg => rfl); (case hr => first | (go_simp; done) | (go_simp; rfl)); intro gb449 hg w42 hbox hb; have BK449 := am_ (hbox); have GW449 := am_ ((bsz_ hg : w.heap.size ≤ gb449)); have GE449 := am_ ((bsz_ hg : w.heap.size ≤ gb449)); have NB424_449 := am_ (bne_ BK424 hg : gb424 ≠ gb449); have NB449_424 := am_ (bng_ BK424 hg : gb449 ≠ gb424); have NB430_449 := am_ (bne_ BK430 hg : gb430 ≠ gb449); have NB449_430 := am_ (bng_ BK430 hg : gb449 ≠ gb430); have NB439_449 := am_ (bne_ BK439 hg : gb439 ≠ gb449); have NB449_439 := am_ (bng_ BK439 hg : gb449 ≠ gb439); have NB440_449 := am_ (bne_ BK440 hg : gb440 ≠ gb449); have NB449_440 := am_ (bng_ BK440 hg : gb449 ≠ gb440); replace BK424 := blb_ BK424 hb; replace BK430 := blb_ BK430 hb; replace BK439 := blb_ BK439 hb; replace BK440 := blb_ BK440 hb; replace HB := am_ (below_step bel_ hb); clear hb hbox hg) | ((with_reducible refine gate_dst (N := 14) rfl ?_); refine box_event ?hg (N := 14) ?hd (cs := #[.int .i64 0, .int .i64 0, .string (⟨#[]⟩ : ByteArray)]) (t := 26) ?hr ?_; (case hd => rfl); (case hg => rfl); (case hr => first | (go_simp; done) | (go_simp; rfl)); intro gb450 hg w43 hbox hb; have BK450 := am_ (hbox); have GW450 := am_ ((bsz_ hg : w.heap.size ≤ gb450)); have GE450 := am_ ((bsz_ hg : w.heap.size ≤ gb450)); have NB424_450 := am_ (bne_ BK424 hg : gb424 ≠ gb450); have NB450_424 := am_ (bng_ BK424 hg : gb450 ≠ gb424); have NB430_450 := am_ (bne_ BK430 hg : gb430 ≠ gb450); have NB450_430 := am_ (bng_ BK430 hg : gb450 ≠ gb430); have NB439_450 := am_ (bne_ BK439 hg : gb439 ≠ gb450); have NB450_439 := am_ (bng_ BK439 hg : gb450 ≠ gb439); have NB440_450 := am_ (bne_ BK440 hg : gb440 ≠ gb450); have NB450_440 := am_ (bng_ BK440 hg : gb450 ≠ gb440); have NB449_450 := am_ (bne_ BK449 hg : gb449 ≠ gb450); have NB450_449 := am_ (bng_ BK449 hg : gb450 ≠ gb449); replace BK424 := blb_ BK424 hb; replace BK430 := blb_ BK430 hb; replace BK439 := blb_ BK439 hb; replace BK440 := blb_ BK440 hb; replace BK449 := blb_ BK449 hb; replace HB := am_ (below_step bel_ hb); clear hb hbox hg; have hnb44 := NB449_424.out; have hnc44 := NB424_449.out; have hnb45 := NB449_430.out; have hnc45 := NB430_449.out; have hnb46 := NB449_439.out; have hnc46 := NB439_449.out; have hnb47 := NB449_440.out; have hnc47 := NB440_449.out; have hnb48 := NB449_450.out; have hnc48 := NB450_449.out; obtain ⟨hcz49_0, hcz49_1, hcz49_2⟩ := c3_ BK449; obtain ⟨hfz49_0, hfz49_1, hfz49_2⟩ := f3_ BK449; have hnb50 := NB450_424.out; have hnc50 := NB424_450.out; have hnb51 := NB450_430.out; have hnc51 := NB430_450.out; have hnb52 := NB450_439.out; have hnc52 := NB439_450.out; have hnb53 := NB450_440.out; have hnc53 := NB440_450.out; obtain ⟨hcz54_0, hcz54_1, hcz54_2⟩ := c3_ BK450; obtain ⟨hfz54_0, hfz54_1, hfz54_2⟩ := f3_ BK450))
   (try simp only [Act.put, List.setIfInBounds_toArray, List.set_cons_zero, List.set_cons_succ])
   go_cut [81] (fun v81 wc => ∃ (kq : Nat) (x81_29 : Bool), v81 = .bool x81_29 ∧ Aside0 (parterrelaw07_LineReads.j1 kq l0 a1 x81_29 = some r) ∧ Aside0 (kq ≤ kj6) ∧ Aside0 (wc.heap[gb424]? = some (.cells #[.int .i64 t419, .int .i64 t420, .string t421] 26 (0, 0))) ∧ Aside0 (wc.heap[gb430]? = some (.cells #[.int .i64 t425, .int .i64 t426, .string t427] 26 (0, 0))) ∧ Aside0 (wc.heap[gb439]? = some (.cells #[.int .i64 t431, .int .i64 t432, .string t433] 26 (0, 0))) ∧ Aside0 (wc.heap[gb440]? = some (.cells #[.int .i64 t434, .int .i64 t435, .string t436] 26 (0, 0))) ∧ Aside0 (wc.heap[gb449]? = some (.cells #[.int .i64 t441, .int .i64 t442, .string t443] 26 (0, 0))) ∧ Aside0 (wc.heap[gb450]? = some (.cells #[.int .i64 t444, .int .i64 t445, .string t446] 26 (0, 0))) ∧ Aside0 (Below w.heap.size w wc))
   case first =>
    have H := HC30.out; clear HC30; by_cases c55 : (!(t431 == t441) || (!(t432 == t442) || (!(t433.toList == t443.toList)))) = true
    ·rw [if_pos c55] at H; have c55b0 : (!(t431 == t441) || (!(t432 == t442) || (!(t433.toList == t443.toList)))) = true := c55; clear c55; (first | rw [c55b0] | (simp only [i64_w, i32_w]; rw [c55b0]) | skip)
     have H' := am_ H; clear H; have hnb56 := NB439_424.out; have hnc56 := NB424_439.out; have hnb57 := NB439_430.out; have hnc57 := NB430_439.out; have hnb58 := NB439_440.out; have hnc58 := NB440_439.out; have hnb59 := NB439_449.out; have hnc59 := NB449_439.out; have hnb60 := NB439_450.out; have hnc60 := NB450_439.out; obtain ⟨hcz61_0, hcz61_1, hcz61_2⟩ := c3_ BK439; obtain ⟨hfz61_0, hfz61_1, hfz61_2⟩ := f3_ BK439; have hnb62 := NB449_424.out; have hnc62 := NB424_449.out; have hnb63 := NB449_430.out; have hnc63 := NB430_449.out; have hnb64 := NB449_440.out; have hnc64 := NB440_449.out; have hnb65 := NB449_450.out; have hnc65 := NB450_449.out; obtain ⟨hcz66_0, hcz66_1, hcz66_2⟩ := c3_ BK449; obtain ⟨hfz66_0, hfz66_1, hfz66_2⟩ := f3_ BK449; go_wp2; go_meet
     case rel => exact ⟨_, (true), rfs_, H', ⟨by have := HJ6.out; first | omega | exact Nat.le_refl _⟩, ⟨bch_⟩, ⟨bch_⟩, ⟨bch_⟩, ⟨bch_⟩, ⟨bch_⟩, ⟨bch_⟩, ⟨bel_⟩⟩
    rw [if_neg c55] at H; have c55b0 : (!(t431 == t441) || (!(t432 == t442) || (!(t433.toList == t443.toList)))) = false := by simpa using c55
    clear c55; (first | rw [c55b0] | (simp only [i64_w, i32_w]; rw [c55b0]) | skip)
    by_cases c67 : (!(t434 == t444) || (!(t435 == t445) || (!(t436.toList == t446.toList)))) = true
    ·rw [if_pos c67] at H; have c67b0 : (!(t434 == t444) || (!(t435 == t445) || (!(t436.toList == t446.toList)))) = true := c67; clear c67; have H' := am_ H; clear H; have hnb68 := NB439_424.out; have hnc68 := NB424_439.out; have hnb69 := NB439_430.out; have hnc69 := NB430_439.out; have hnb70 := NB439_440.out; have hnc70 := NB440_439.out; have hnb71 := NB439_449.out; have hnc71 := NB449_439.out; have hnb72 := NB439_450.out; have hnc72 := NB450_439.out; obtain ⟨hcz73_0, hcz73_1, hcz73_2⟩ := c3_ BK439; obtain ⟨hfz73_0, hfz73_1, hfz73_2⟩ := f3_ BK439; have hnb74 := NB449_424.out; have hnc74 := NB424_449.out; have hnb75 := NB449_430.out; have hnc75 := NB430_449.out; have hnb76 := NB449_440.out; have hnc76 := NB440_449.out; have hnb77 := NB449_450.out; have hnc77 := NB450_449.out; obtain ⟨hcz78_0, hcz78_1, hcz78_2⟩ := c3_ BK449; obtain ⟨hfz78_0, hfz78_1, hfz78_2⟩ := f3_ BK449; have hnb79 := NB440_424.out; have hnc79 := NB424_440.out; have hnb80 := NB440_430.out; have hnc80 := NB430_440.out; have hnb81 := NB440_450.out; have hnc81 := NB450_440.out; obtain ⟨hcz82_0, hcz82_1, hcz82_2⟩ := c3_ BK440; obtain ⟨hfz82_0, hfz82_1, hfz82_2⟩ := f3_ BK440; have hnb83 := NB450_424.out; have hnc83 := NB424_450.out; have hnb84 := NB450_430.out; have hnc84 := NB430_450.out; obtain ⟨hcz85_0, hcz85_1, hcz85_2⟩ := c3_ BK450; obtain ⟨hfz85_0, hfz85_1, hfz85_2⟩ := f3_ BK450; go_wp2; go_meet
     case rel => exact ⟨_, (true), rfs_, H', ⟨by have := HJ6.out; first | omega | exact Nat.le_refl _⟩, ⟨bch_⟩, ⟨bch_⟩, ⟨bch_⟩, ⟨bch_⟩, ⟨bch_⟩, ⟨bch_⟩, ⟨bel_⟩⟩
    rw [if_neg c67] at H; have c67b0 : (!(t434 == t444) || (!(t435 == t445) || (!(t436.toList == t446.toList)))) = false := by simpa using c67
    clear c67; by_cases c86 : t437 = t447
    ·rw [if_pos c86] at H; have c86b0 : (t437 == t447) = true := beq_iff_eq.mpr c86; have c86b1 : (t437 != t447) = false := bne_eq_false_iff_eq.mpr c86; clear c86; have H' := am_ H; clear H; have hnb87 := NB439_424.out; have hnc87 := NB424_439.out; have hnb88 := NB439_430.out; have hnc88 := NB430_439.out; have hnb89 := NB439_440.out; have hnc89 := NB440_439.out; have hnb90 := NB439_449.out; have hnc90 := NB449_439.out; have hnb91 := NB439_450.out; have hnc91 := NB450_439.out; obtain ⟨hcz92_0, hcz92_1, hcz92_2⟩ := c3_ BK439; obtain ⟨hfz92_0, hfz92_1, hfz92_2⟩ := f3_ BK439; have hnb93 := NB449_424.out; have hnc93 := NB424_449.out; have hnb94 := NB449_430.out; have hnc94 := NB430_449.out; have hnb95 := NB449_440.out; have hnc95 := NB440_449.out; have hnb96 := NB449_450.out; have hnc96 := NB450_449.out; obtain ⟨hcz97_0, hcz97_1, hcz97_2⟩ := c3_ BK449; obtain ⟨hfz97_0, hfz97_1, hfz97_2⟩ := f3_ BK449; have hnb98 := NB440_424.out; have hnc98 := NB424_440.out; have hnb99 := NB440_430.out; have hnc99 := NB430_440.out; have hnb100 := NB440_450.out; have hnc100 := NB450_440.out; obtain ⟨hcz101_0, hcz101_1, hcz101_2⟩ := c3_ BK440; obtain ⟨hfz101_0, hfz101_1, hfz101_2⟩ := f3_ BK440; have hnb102 := NB450_424.out; have hnc102 := NB424_450.out; have hnb103 := NB450_430.out; have hnc103 := NB430_450.out; obtain ⟨hcz104_0, hcz104_1, hcz104_2⟩ := c3_ BK450; obtain ⟨hfz104_0, hfz104_1, hfz104_2⟩ := f3_ BK450; go_wp2; go_meet
     case rel => exact ⟨_, ((t438 != t448)), rfs_, H', ⟨by have := HJ6.out; first | omega | exact Nat.le_refl _⟩, ⟨bch_⟩, ⟨bch_⟩, ⟨bch_⟩, ⟨bch_⟩, ⟨bch_⟩, ⟨bch_⟩, ⟨bel_⟩⟩
    rw [if_neg c86] at H; have c86b0 : (t437 == t447) = false := beq_eq_false_iff_ne.mpr c86; have c86b1 : (t437 != t447) = true := bne_iff_ne.mpr c86; have H' := am_ H; clear H; have hnb105 := NB439_424.out; have hnc105 := NB424_439.out; have hnb106 := NB439_430.out; have hnc106 := NB430_439.out; have hnb107 := NB439_440.out; have hnc107 := NB440_439.out; have hnb108 := NB439_449.out; have hnc108 := NB449_439.out; have hnb109 := NB439_450.out; have hnc109 := NB450_439.out; obtain ⟨hcz110_0, hcz110_1, hcz110_2⟩ := c3_ BK439; obtain ⟨hfz110_0, hfz110_1, hfz110_2⟩ := f3_ BK439; have hnb111 := NB449_424.out; have hnc111 := NB424_449.out; have hnb112 := NB449_430.out; have hnc112 := NB430_449.out; have hnb113 := NB449_440.out; have hnc113 := NB440_449.out; have hnb114 := NB449_450.out; have hnc114 := NB450_449.out; obtain ⟨hcz115_0, hcz115_1, hcz115_2⟩ := c3_ BK449; obtain ⟨hfz115_0, hfz115_1, hfz115_2⟩ := f3_ BK449; have hnb116 := NB440_424.out; have hnc116 := NB424_440.out; have hnb117 := NB440_430.out; have hnc117 := NB430_440.out; have hnb118 := NB440_450.out; have hnc118 := NB450_440.out; obtain ⟨hcz119_0, hcz119_1, hcz119_2⟩ := c3_ BK440; obtain ⟨hfz119_0, hfz119_1, hfz119_2⟩ := f3_ BK440; have hnb120 := NB450_424.out; have hnc120 := NB424_450.out; have hnb121 := NB450_430.out; have hnc121 := NB430_450.out; obtain ⟨hcz122_0, hcz122_1, hcz122_2⟩ := c3_ BK450; obtain ⟨hfz122_0, hfz122_1, hfz122_2⟩ := f3_ BK450; go_wp2; go_meet
    case rel => exact ⟨_, (true), rfs_, H', ⟨by have := HJ6.out; first | omega | exact Nat.le_refl _⟩, ⟨bch_⟩, ⟨bch_⟩, ⟨bch_⟩, ⟨bch_⟩, ⟨bch_⟩, ⟨bch_⟩, ⟨bel_⟩⟩
   clear HC30; try clear c27
   try clear hcz37_0
   try clear hcz37_1
   try clear hcz37_2
   try clear hcz40_0
   try clear hcz40_1
   try clear hcz40_2
   try clear hcz49_0
   try clear hcz49_1
   try clear hcz49_2
   try clear hcz54_0
   try clear hcz54_1
   try clear hcz54_2
   try clear hfz37_0
   try clear hfz37_1
   try clear hfz37_2
   try clear hfz40_0
   try clear hfz40_1
   try clear hfz40_2
   try clear hfz49_0
   try clear hfz49_1
   try clear hfz49_2
   try clear hfz54_0
   try clear hfz54_1
   try clear hfz54_2
   obtain ⟨kq, x81_29, rfl, HA, HJ29, BK424, BK430, BK439, BK440, BK449, BK450, HB⟩ := hcut
   cases kq with
   | zero => exact absurd HA.out (by simp [parterrelaw07_LineReads.j1])
   | succ kj29 =>
    have H := HA.out; clear HA; simp only [parterrelaw07_LineReads.j1] at H; by_cases c123 : x81_29 = true
    ·subst c123; rw [if_pos rfl] at H; exact absurd H (by simp)
    replace c123 := Bool.eq_false_iff.mpr c123; subst c123; rw [if_neg (show ¬ (false = true) by decide)] at H; replace H := bs_ H; obtain ⟨⟨t451, t452, t453, t454, t455, t456, t457, t458, t459, t460, t461, t462, t463, t464⟩, A1240, H⟩ := H; try dsimp only at H
    have A124 := am_ A1240; clear A1240; replace H := bs_ H; obtain ⟨⟨t466, t467, t468, t469, t470, t471, t472, t473, t474, t475, t476, t477, t478, t479⟩, A1250, H⟩ := H; try dsimp only at H
    have A125 := am_ A1250; clear A1250; by_cases c126 : ((t451 == t466 && (t452 == t467 && (t453.toList == t468.toList))) && ((t454 == t469 && (t455 == t470 && (t456.toList == t471.toList))) && ((t457 == t472 && (t458 == t473 && (t459.toList == t474.toList))) && ((t460 == t475 && (t461 == t476 && (t462.toList == t477.toList))))))) = true
    ·rw [if_pos c126] at H; have c126b0 : ((t451 == t466 && (t452 == t467 && (t453.toList == t468.toList))) && ((t454 == t469 && (t455 == t470 && (t456.toList == t471.toList))) && ((t457 == t472 && (t458 == t473 && (t459.toList == t474.toList))) && ((t460 == t475 && (t461 == t476 && (t462.toList == t477.toList))))))) = true := c126; clear c126; by_cases c127 : t463 = t478
     ·rw [if_pos c127] at H; have c127b0 : (t463 == t478) = true := beq_iff_eq.mpr c127; have c127b1 : (t463 != t478) = false := bne_eq_false_iff_eq.mpr c127; clear c127; by_cases c128 : t464 = t479
      ·rw [if_pos c128] at H; have c128b0 : (t464 == t479) = true := beq_iff_eq.mpr c128; have c128b1 : (t464 != t479) = false := bne_eq_false_iff_eq.mpr c128; clear c128; replace H := bs_ H; obtain ⟨t481, A1290, H⟩ := H; try dsimp only at H
       have A129 := am_ A1290; clear A1290; obtain rfl := si_ H; go_wp2_with (first | ((with_reducible refine gate_callee (f := 10) rfl ?_); refine goesL_ (some 85) rfl rfl Try.func10 (by kernel_rfl) rfl #[.slice A0 l0.length c0, .int .i64 a1] rfl goa_ ?_; (with_reducible refine (line_Four.calls kj29 _ _ l0 a1 t451 t452 t453 t454 t455 t456 t457 t458 t459 t460 t461 t462 t463 t464 _ ?side1 ?side2 A124.out).mono ?_); (case side1 => exact cin_); (case side2 => exact HC0.out); rintro e w130 ⟨rfl, hb⟩; refine ⟨_, rfl, ?_⟩; replace BK424 := blb_ BK424 hb; replace BK430 := blb_ BK430 hb; replace BK439 := blb_ BK439 hb; replace BK440 := blb_ BK440 hb; replace BK449 := blb_ BK449 hb; replace BK450 := blb_ BK450 hb; replace HB := am_ (below_step bel_ hb); clear hb) | ((with_reducible refine gate_dst (N := 15) rfl ?_); refine box_event ?hg (N := 15) ?hd (cs := #[.int .i64 0, .int .i64 0, .string (⟨#[]⟩ : ByteArray), .int .i64 0, .int .i64 0, .string (⟨#[]⟩ : ByteArray), .int .i64 0, .int .i64 0, .string (⟨#[]⟩ : ByteArray), .int .i64 0, .int .i64 0, .string (⟨#[]⟩ : ByteArray)]) (t := 36) ?hr ?_; (case hd => rfl); (case hg => rfl); (case hr => first | (go_simp; done) | (go_simp; rfl)); intro gb465 hg w131 hbox hb; have BK465 := am_ (hbox); have GW465 := am_ ((bsz_ hg : w.heap.size ≤ gb465)); have GE465 := am_ ((bsz_ hg : w.heap.size ≤ gb465)); have NB424_465 := am_ (bne_ BK424 hg : gb424 ≠ gb465); have NB465_424 := am_ (bng_ BK424 hg : gb465 ≠ gb424); have NB430_465 := am_ (bne_ BK430 hg : gb430 ≠ gb465); have NB465_430 := am_ (bng_ BK430 hg : gb465 ≠ gb430); have NB439_465 := am_ (bne_ BK439 hg : gb439 ≠ gb465); have NB465_439 := am_ (bng_ BK439 hg : gb465 ≠ gb439); have NB440_465 := am_ (bne_ BK440 hg : gb440 ≠ gb465); have NB465_440 := am_ (bng_ BK440 hg : gb465 ≠ gb440); have NB449_465 := am_ (bne_ BK449 hg : gb449 ≠ gb465); have NB465_449 := am_ (bng_ BK449 hg : gb465 ≠ gb449); have NB450_465 := am_ (bne_ BK450 hg : gb450 ≠ gb465); have NB465_450 := am_ (bng_ BK450 hg : gb465 ≠ gb450); replace BK424 := blb_ BK424 hb; replace BK430 := blb_ BK430 hb; replace BK439 := blb_ BK439 hb; replace BK440 := blb_ BK440 hb; replace BK449 := blb_ BK449 hb; replace BK450 := blb_ BK450 hb; replace HB := am_ (below_step bel_ hb); clear hb hbox hg; have hnb132 := NB465_424.out; have hnc132 := NB424_465.out; have hnb133 := NB465_430.out; have hnc133 := NB430_465.out; have hnb134 := NB465_439.out; have hnc134 := NB439_465.out; have hnb135 := NB465_440.out; have hnc135 := NB440_465.out; have hnb136 := NB465_449.out; have hnc136 := NB449_465.out; have hnb137 := NB465_450.out; have hnc137 := NB450_465.out; obtain ⟨hcz138_0, hcz138_1, hcz138_2, hcz138_3, hcz138_4, hcz138_5, hcz138_6, hcz138_7, hcz138_8, hcz138_9, hcz138_10, hcz138_11⟩ := c12_ BK465; obtain ⟨hfz138_0, hfz138_1, hfz138_2, hfz138_3, hfz138_4, hfz138_5, hfz138_6, hfz138_7, hfz138_8, hfz138_9, hfz138_10, hfz138_11⟩ := f12_ BK465) | ((with_reducible refine gate_callee (f := 11) rfl ?_); refine goesL_ (some 92) rfl rfl Try.func11 (by kernel_rfl) rfl #[.slice A0 l0.length c0, .int .i64 a1] rfl goa_ ?_; (with_reducible refine (r07_Four.calls kj29 _ _ l0 a1 t466 t467 t468 t469 t470 t471 t472 t473 t474 t475 t476 t477 t478 t479 _ ?side1 ?side2 A125.out).mono ?_); (case side1 => exact Kd.C_below HR0.out bel_); (case side2 => exact HC0.out); rintro e w139 ⟨rfl, hb⟩; refine ⟨_, rfl, ?_⟩; replace BK424 := am_ (blk_below (g := gb424) (o := .cells #[.int .i64 t419, .int .i64 t420, .string t421] 26 (0, 0)) (bch_) hb); replace BK430 := am_ (blk_below (g := gb430) (o := .cells #[.int .i64 t425, .int .i64 t426, .string t427] 26 (0, 0)) (bch_) hb); replace BK439 := am_ (blk_below (g := gb439) (o := .cells #[.int .i64 t431, .int .i64 t432, .string t433] 26 (0, 0)) (bch_) hb); replace BK440 := am_ (blk_below (g := gb440) (o := .cells #[.int .i64 t434, .int .i64 t435, .string t436] 26 (0, 0)) (bch_) hb); replace BK449 := am_ (blk_below (g := gb449) (o := .cells #[.int .i64 t441, .int .i64 t442, .string t443] 26 (0, 0)) (bch_) hb); replace BK450 := am_ (blk_below (g := gb450) (o := .cells #[.int .i64 t444, .int .i64 t445, .string t446] 26 (0, 0)) (bch_) hb); replace BK465 := am_ (blk_below (g := gb465) (o := .cells #[.int .i64 t451, .int .i64 t452, .string t453, .int .i64 t454, .int .i64 t455, .string t456, .int .i64 t457, .int .i64 t458, .string t459, .int .i64 t460, .int .i64 t461, .string t462] 36 (0, 0)) (bch_) hb); replace HB := am_ (below_step bel_ hb); clear hb) | ((with_reducible refine gate_dst (N := 16) rfl ?_); refine box_event ?hg (N := 16) ?hd (cs := #[.int .i64 0, .int .i64 0, .string (⟨#[]⟩ : ByteArray), .int .i64 0, .int .i64 0, .string (⟨#[]⟩ : ByteArray), .int .i64 0, .int .i64 0, .string (⟨#[]⟩ : ByteArray), .int .i64 0, .int .i64 0, .string (⟨#[]⟩ : ByteArray)]) (t := 36) ?hr ?_; (case hd => rfl); (case hg => rfl); (case hr => first | (go_simp; done) | (go_simp; rfl)); intro gb480 hg w140 hbox hb; have BK480 := am_ (hbox); have GW480 := am_ ((bsz_ hg : w.heap.size ≤ gb480)); have GE480 := am_ ((bsz_ hg : w.heap.size ≤ gb480)); have NB424_480 := am_ (bne_ BK424 hg : gb424 ≠ gb480); have NB480_424 := am_ (bng_ BK424 hg : gb480 ≠ gb424); have NB430_480 := am_ (bne_ BK430 hg : gb430 ≠ gb480); have NB480_430 := am_ (bng_ BK430 hg : gb480 ≠ gb430); have NB439_480 := am_ (bne_ BK439 hg : gb439 ≠ gb480); have NB480_439 := am_ (bng_ BK439 hg : gb480 ≠ gb439); have NB440_480 := am_ (bne_ BK440 hg : gb440 ≠ gb480); have NB480_440 := am_ (bng_ BK440 hg : gb480 ≠ gb440); have NB449_480 := am_ (bne_ BK449 hg : gb449 ≠ gb480); have NB480_449 := am_ (bng_ BK449 hg : gb480 ≠ gb449); have NB450_480 := am_ (bne_ BK450 hg : gb450 ≠ gb480); have NB480_450 := am_ (bng_ BK450 hg : gb480 ≠ gb450); have NB465_480 := am_ (bne_ BK465 hg : gb465 ≠ gb480); have NB480_465 := am_ (bng_ BK465 hg : gb480 ≠ gb465); replace BK424 := blb_ BK424 hb; replace BK430 := blb_ BK430 hb; replace BK439 := blb_ BK439 hb; replace BK440 := blb_ BK440 hb; replace BK449 := blb_ BK449 hb; replace BK450 := blb_ BK450 hb; replace BK465 := blb_ BK465 hb; replace HB := am_ (below_step bel_ hb); clear hb hbox hg; have hnb141 := NB480_424.out; have hnc141 := NB424_480.out; have hnb142 := NB480_430.out; have hnc142 := NB430_480.out; have hnb143 := NB480_439.out; have hnc143 := NB439_480.out; have hnb144 := NB480_440.out; have hnc144 := NB440_480.out; have hnb145 := NB480_449.out; have hnc145 := NB449_480.out; have hnb146 := NB480_450.out; have hnc146 := NB450_480.out; have hnb147 := NB480_465.out; have hnc147 := NB465_480.out; obtain ⟨hcz148_0, hcz148_1, hcz148_2, hcz148_3, hcz148_4, hcz148_5, hcz148_6, hcz148_7, hcz148_8, hcz148_9, hcz148_10, hcz148_11⟩ := c12_ BK480; obtain ⟨hfz148_0, hfz148_1, hfz148_2, hfz148_3, hfz148_4, hfz148_5, hfz148_6, hfz148_7, hfz148_8, hfz148_9, hfz148_10, hfz148_11⟩ := f12_ BK480; obtain ⟨hcz149_0, hcz149_1, hcz149_2, hcz149_3, hcz149_4, hcz149_5, hcz149_6, hcz149_7, hcz149_8, hcz149_9, hcz149_10, hcz149_11⟩ := c12_ BK465; obtain ⟨hfz149_0, hfz149_1, hfz149_2, hfz149_3, hfz149_4, hfz149_5, hfz149_6, hfz149_7, hfz149_8, hfz149_9, hfz149_10, hfz149_11⟩ := f12_ BK465) | (go_at_call 5; (with_reducible refine (parterrelaw07_lives.calls kj29  t481 _ A129.out).mono ?_); rintro e w150 ⟨rfl, hb⟩; replace BK424 := am_ (blk_below (g := gb424) (o := .cells #[.int .i64 t419, .int .i64 t420, .string t421] 26 (0, 0)) (bch_) hb); replace BK430 := am_ (blk_below (g := gb430) (o := .cells #[.int .i64 t425, .int .i64 t426, .string t427] 26 (0, 0)) (bch_) hb); replace BK439 := am_ (blk_below (g := gb439) (o := .cells #[.int .i64 t431, .int .i64 t432, .string t433] 26 (0, 0)) (bch_) hb); replace BK440 := am_ (blk_below (g := gb440) (o := .cells #[.int .i64 t434, .int .i64 t435, .string t436] 26 (0, 0)) (bch_) hb); replace BK449 := am_ (blk_below (g := gb449) (o := .cells #[.int .i64 t441, .int .i64 t442, .string t443] 26 (0, 0)) (bch_) hb); replace BK450 := am_ (blk_below (g := gb450) (o := .cells #[.int .i64 t444, .int .i64 t445, .string t446] 26 (0, 0)) (bch_) hb); replace BK465 := am_ (blk_below (g := gb465) (o := .cells #[.int .i64 t451, .int .i64 t452, .string t453, .int .i64 t454, .int .i64 t455, .string t456, .int .i64 t457, .int .i64 t458, .string t459, .int .i64 t460, .int .i64 t461, .string t462] 36 (0, 0)) (bch_) hb); replace BK480 := am_ (blk_below (g := gb480) (o := .cells #[.int .i64 t466, .int .i64 t467, .string t468, .int .i64 t469, .int .i64 t470, .string t471, .int .i64 t472, .int .i64 t473, .string t474, .int .i64 t475, .int .i64 t476, .string t477] 36 (0, 0)) (bch_) hb); replace HB := am_ (below_step bel_ hb); clear hb))
       go_ret
       exact ⟨rsl_, bel_⟩
      rw [if_neg c128] at H; exact absurd H (by simp)
     rw [if_neg c127] at H; exact absurd H (by simp)
    rw [if_neg c126] at H; exact absurd H (by simp)
 replace c4 := Bool.eq_false_iff.mpr c4; subst c4; rw [if_neg (show ¬ (false = true) by decide)] at H; replace H := bs_ H; obtain ⟨t418, A1510, H⟩ := H; try dsimp only at H
 have A151 := am_ A1510; clear A1510; obtain rfl := si_ H; go_enter Try.func3, Try.ntmps3
 go_wp2_with (first | ((with_reducible refine gate_callee (f := 4) rfl ?_); refine goesL_ (some 18) rfl rfl Try.func4 (by kernel_rfl) rfl #[.slice A0 l0.length c0] rfl goa_ ?_; (with_reducible refine (parterrelaw07_few.calls k _ _ l0 false _ ?side1 ?side2 A3.out).mono ?_); (case side1 => exact cin_); (case side2 => exact HC0.out); rintro e w152 ⟨rfl, hb⟩; refine ⟨_, rfl, ?_⟩; replace HB := am_ (below_step bel_ hb); clear hb) | ((with_reducible refine gate_callee (f := 5) rfl ?_); refine goesL_ (some 20) rfl rfl Try.func5 (by kernel_rfl) rfl #[] rfl goa_ ?_; (with_reducible refine (parterrelaw07_lives.calls k  t418 _ A151.out).mono ?_); rintro e w153 ⟨rfl, hb⟩; refine ⟨_, rfl, ?_⟩; replace HB := am_ (below_step bel_ hb); clear hb))
 go_ret
 exact ⟨rsl_, bel_⟩

def g43 (x : S43) : Prop := (gInt .i64) x.f0 ∧ (gInt .i64) x.f1 ∧ gStr x.f2 ∧ gStr x.f3
theorem o43 : Opens Try.prog 43 k43 g43 := by
 have h := opens_iso (f := fun x : S43 => (x.f0, x.f1, x.f2, x.f3)) (fun a => ⟨a.1, a.2.1, a.2.2.1, a.2.2.2⟩) (fun _ => rfl) (opens_struct Try.underlying43 (by kernel_rfl) (opensF_cons rfl (by kernel_rfl) (opens_int Try.underlying3) (opensF_cons rfl (by kernel_rfl) (opens_int Try.underlying3) (opensF_cons rfl (by kernel_rfl) (opens_string Try.underlying9) (opensF_one rfl (by kernel_rfl) (opens_string Try.underlying9)))))); exact h
/-- THE ONE PURE STATEMENT of parterrelaw07_LineReads. -/
def parterrelaw07_LineReads.Pure : Prop := ∀ (l0 : List (S43)) (a1 : Int), gSl 48 g43 l0 → gInt .i64 a1 → ∃ k, parterrelaw07_LineReads.f k l0 a1 = some true

end Go.Proofs.Ytofdhdafabmhmaa.PLr
end
section
/- Numbers as text (layer 2): what a number's text has, by the plain programs and by the document. Conditions: as each statement says. -/
namespace Go.Proofs.Ytofdhdafabmhmaa.PureNu
open Go.RowKit Go.Proofs.YtofdhdafabmhmaaW.PrintWords Go.Proofs.YtofdhdafabmhmaaW.PrintMore Go.Proofs.Ytofdhdafabmhmaa.Evs Go.Proofs.Ytofdhdafabmhmaa.Opn Go.Proofs.Ytofdhdafabmhmaa.PLr

/-! ### Digits and signs -/
def isD (c : Int) : Bool := decide (48 ≤ c ∧ c ≤ 57)
theorem digit_f (c : Int) : number_digit.f c = some (isD c) := by
  unfold number_digit.f isD; by_cases h : c ≥ 48
  · rw [if_pos h]
    congr 1
    exact decide_eq_decide.2 ⟨fun k => ⟨h, k⟩, fun k => k.2⟩
  rw [if_neg h]; congr 1
  exact (df_ (fun k => h k.1)).symm
theorem rdigit_f (c : Int) : r02_digit.f c = some (isD c) := digit_f c
theorem stop_next {s : ByteArray} {i : Nat} (h : i < s.size) (hd : isD (bt s (i : Nat)) = true) : number_parts.stop s i = number_parts.stop s (i + 1) := number_parts.stop_next s i h (by rw [digit_f, hd])
theorem stop_here {s : ByteArray} {i : Nat} (h : i < s.size) (hd : isD (bt s (i : Nat)) = false) : number_parts.stop s i = i := number_parts.stop_here s i h (by rw [digit_f, hd]; simp)
theorem stop_digit (s : ByteArray) : ∀ d i j : Nat, s.size - i = d → i ≤ j → j < number_parts.stop s i → isD (bt s (j : Nat)) = true := by
  intro d; induction d with
  | zero =>
    intro i j hd hij hj; have : s.size - i = 0 := hd
    unfold number_parts.stop at hj; rw [this] at hj; simp only [number_parts.stopF] at hj; omega
  | succ d ih =>
    intro i j hd hij hj; by_cases hD : isD (bt s (i : Nat)) = true
    · rcases Nat.eq_or_lt_of_le hij with rfl | h
      · exact hD
      rw [stop_next (by omega) hD] at hj; exact ih (i + 1) j (by omega) h hj
    rw [stop_here (by omega) (by simpa using hD)] at hj; omega
theorem digits_l0 (s : ByteArray) (hs : s.size ≤ 140737488351232) (i : Nat) : ∀ d j : Nat, s.size - (i + j) = d → i + j ≤ s.size → Ev (fun k => r02_digits.l0 k s (i : Nat) (j : Nat)) ((number_parts.stop s (i + j) : Int) - (i : Int)) := by
  intro d; induction d with
  | zero =>
    intro j hd hij; have e : i + j = s.size := by omega
    refine ev_step ?_
    simp only [r02_digits.l0]; rw [w64 (by omega) (by omega)]; refine ev_neg (by omega) (ev_eq ?_)
    rw [e, number_parts.stop_end]; omega
  | succ d ih =>
    intro j hd hij; have hlt : i + j < s.size := by omega
    refine ev_step ?_
    simp only [r02_digits.l0]; rw [w64 (x := (i : Int) + j) (by omega) (by omega), show ((i : Int) + (j : Int)) = ((i + j : Nat) : Int) by omega]; refine ev_pos (by omega) (ev_pos (by omega) (ev_bindc (rdigit_f _) (ev_ite (fun h => ?_) (fun h => ?_))))
    · rw [w64 (by omega) (by omega), stop_next hlt h]
      exact ih (j + 1) (by omega) (by omega)
    rw [stop_here hlt (by simpa using h)]; exact ev_eq (by omega)
theorem digits_ev (s : ByteArray) (hs : s.size ≤ 140737488351232) (i : Nat) (hi : i ≤ s.size) : Ev (fun k => r02_digits.f k s (i : Nat)) ((number_parts.stop s i : Int) - (i : Int)) := digits_l0 s hs i (s.size - i) 0 (by omega) (by omega)
theorem sign_f (s : ByteArray) (i : Nat) : r02_sign.f s (i : Nat) = some ((number_parts.sgn s i : Int) - (i : Int)) := by
  unfold r02_sign.f number_parts.sgn number_parts.isSign; by_cases h : i < s.size
  · rw [if_pos (by omega), if_pos (by omega), dt_ h]
    by_cases h1 : bt s (i : Nat) = 43
    · rw [if_pos h1, h1]
      simp
      omega
    rw [if_neg h1]; by_cases h2 : bt s (i : Nat) = 45
    · rw [if_pos h2, h2]
      simp
      omega
    rw [if_neg h2]; have e1 : (bt s (i : Nat) == 43) = false := by simpa using h1
    have e2 : (bt s (i : Nat) == 45) = false := by simpa using h2
    rw [e1, e2]; simp
  rw [if_neg (by omega), df_ h]; simp
theorem sgn_bd (s : ByteArray) (i : Nat) (h : i ≤ s.size) : i ≤ number_parts.sgn s i ∧ number_parts.sgn s i ≤ s.size ∧ number_parts.sgn s i ≤ i + 1 := by
  unfold number_parts.sgn number_parts.isSign; by_cases h : i < s.size
  · rw [dt_ h]
    split <;> omega
  rw [df_ h]; simp
  omega

/-! ### The parts -/
theorem w0_bd (s : ByteArray) : number_parts.w0 s ≤ s.size := (sgn_bd s 0 (by omega)).2.1
theorem w1_bd (s : ByteArray) : number_parts.w0 s ≤ number_parts.w1 s ∧ number_parts.w1 s ≤ s.size := number_parts.stop_bd s _ (w0_bd s)
/-- How many digits stand behind the point. -/
def pn (s : ByteArray) : Nat := number_parts.at2 s - number_parts.w1 s - 1
theorem dot_lt {s : ByteArray} {i : Nat} (h : number_parts.isDot s i = true) : i < s.size := by
  unfold number_parts.isDot at h; simp at h
  exact h.1
theorem isE_lt {s : ByteArray} {i : Nat} (h : number_parts.isE s i = true) : i < s.size := by
  unfold number_parts.isE at h; simp at h
  exact h.1
theorem p1_bd {s : ByteArray} (h : number_parts.isDot s (number_parts.w1 s) = true) : number_parts.w1 s + 1 ≤ number_parts.p1 s ∧ number_parts.p1 s ≤ s.size := by
  unfold number_parts.p1; rw [if_pos h]; have := dot_lt h
  exact number_parts.stop_bd s _ (by omega)
theorem at2_bd (s : ByteArray) : number_parts.w1 s ≤ number_parts.at2 s ∧ number_parts.at2 s ≤ s.size ∧ number_parts.at2 s ≠ number_parts.w1 s + 1 := by
  unfold number_parts.at2; have h1 := w1_bd s; split
  · rename_i h
    have := p1_bd h
    split <;> omega
  omega
def noNum (s : ByteArray) : Bool := decide (number_parts.w1 s = number_parts.w0 s ∧ number_parts.at2 s = number_parts.w1 s)
def endOf (s : ByteArray) : Nat := if number_parts.hasE s = true then number_parts.x1 s else number_parts.at2 s
def expAt (s : ByteArray) : Nat := if number_parts.hasE s = true then number_parts.at2 s + 1 else 0
def refParts (s : ByteArray) : Int × Int × Int × Int × Int := if noNum s = true then (0, 0, 0, 0, 0) else ((number_parts.w0 s : Int), (number_parts.w1 s : Int) - (number_parts.w0 s : Int), (pn s : Int), (expAt s : Int), (endOf s : Int))
theorem x0_bd {s : ByteArray} (h : number_parts.isE s (number_parts.at2 s) = true) : number_parts.at2 s + 1 ≤ number_parts.x0 s ∧ number_parts.x0 s ≤ s.size ∧ number_parts.x0 s ≤ number_parts.at2 s + 2 := by
  have h1 := isE_lt h; have := sgn_bd s (number_parts.at2 s + 1) (by omega)
  unfold number_parts.x0; omega
theorem x1_bd {s : ByteArray} (h : number_parts.isE s (number_parts.at2 s) = true) : number_parts.x0 s ≤ number_parts.x1 s ∧ number_parts.x1 s ≤ s.size := number_parts.stop_bd s _ (x0_bd h).2.1
theorem parts_j2 (s : ByteArray) (hs : s.size ≤ 140737488351232) : Ev (fun k => r02_Parts.j2 k s (number_parts.w0 s : Nat) ((number_parts.w1 s : Int) - (number_parts.w0 s : Int)) (number_parts.at2 s : Nat) (pn s : Nat) (number_parts.isE s (number_parts.at2 s)))
    ((number_parts.w0 s : Int), (number_parts.w1 s : Int) - (number_parts.w0 s : Int), (pn s : Int), (expAt s : Int), (endOf s : Int)) := by
  have hb := at2_bd s; refine ev_step ?_
  simp only [r02_Parts.j2]; refine ev_ite (fun hE => ?_) (fun hE => ?_)
  · have h0 := isE_lt hE
    have h1 := x0_bd hE; have h2 := x1_bd hE; rw [w64 (x := (number_parts.at2 s : Int) + 1) (by omega) (by omega), show ((number_parts.at2 s : Int) + 1) = ((number_parts.at2 s + 1 : Nat) : Int) by omega]; refine ev_bindc (sign_f s _) ?_
    rw [show number_parts.sgn s (number_parts.at2 s + 1) = number_parts.x0 s from rfl, w64 (x := ((number_parts.at2 s + 1 : Nat) : Int) + ((number_parts.x0 s : Int) - ((number_parts.at2 s + 1 : Nat) : Int))) (by omega) (by omega),
      show ((number_parts.at2 s + 1 : Nat) : Int) + ((number_parts.x0 s : Int) - ((number_parts.at2 s + 1 : Nat) : Int)) = ((number_parts.x0 s : Nat) : Int) by omega]
    refine ev_bind (digits_ev s hs _ h1.2.1) ?_
    rw [show number_parts.stop s (number_parts.x0 s) = number_parts.x1 s from rfl]; refine ev_ite (fun hn => ?_) (fun hn => ?_)
    · have hE2 : number_parts.hasE s = true := by
        unfold number_parts.hasE; rw [hE, dt_ (by omega)]; rfl
      refine ev_eq ?_
      unfold endOf expAt; rw [if_pos hE2, if_pos hE2, w64 (by omega) (by omega)]; simp only [Prod.mk.injEq, true_and]; omega
    have hE2 : ¬ number_parts.hasE s = true := by
      unfold number_parts.hasE; rw [hE, df_ (by omega)]; simp
    refine ev_eq ?_
    unfold endOf expAt; rw [if_neg hE2, if_neg hE2]; rfl
  have hE2 : ¬ number_parts.hasE s = true := by
    unfold number_parts.hasE; simp [hE]
  refine ev_eq ?_
  unfold endOf expAt; rw [if_neg hE2, if_neg hE2]; rfl
theorem parts_j1 (s : ByteArray) (hs : s.size ≤ 140737488351232) : Ev (fun k => r02_Parts.j1 k s (number_parts.w0 s : Nat) ((number_parts.w1 s : Int) - (number_parts.w0 s : Int)) (number_parts.at2 s : Nat) (pn s : Nat)) (refParts s) := by
  have hb := at2_bd s; have hb1 := w1_bd s; refine ev_step ?_
  simp only [r02_Parts.j1]; have hp : pn s ≤ s.size := by unfold pn; omega
  rw [w64 (by omega) (by omega)]; refine ev_ite (fun h => ?_) (fun h => ?_)
  · refine ev_eq ?_
    unfold refParts; rw [if_pos]; unfold noNum; apply dt_
    unfold pn at h; omega
  have e : refParts s = ((number_parts.w0 s : Int), (number_parts.w1 s : Int) - (number_parts.w0 s : Int), (pn s : Int), (expAt s : Int), (endOf s : Int)) := by
    unfold refParts; rw [if_neg]; unfold noNum; intro k; have := od_ k
    unfold pn at h; omega
  rw [e]; have hj := parts_j2 s hs; refine ev_ite (fun h1 => ev_pos (by omega) ?_) (fun h1 => ?_)
  · have h2 : number_parts.at2 s < s.size := by omega
    refine ev_ite (fun h3 => ?_) (fun h3 => ?_)
    · have : number_parts.isE s (number_parts.at2 s) = true := by
        unfold number_parts.isE; rw [dt_ h2, h3]; rfl
      rw [this] at hj; exact hj
    have : number_parts.isE s (number_parts.at2 s) = (bt s (number_parts.at2 s : Nat) == 69) := by
      unfold number_parts.isE; rw [dt_ h2, show (bt s (number_parts.at2 s : Nat) == 101) = false by simpa using h3]; rfl
    rw [this] at hj; exact hj
  have : number_parts.isE s (number_parts.at2 s) = false := by
    unfold number_parts.isE; rw [df_ (by omega)]; rfl
  rw [this] at hj; exact hj
theorem parts_j0 (s : ByteArray) (hs : s.size ≤ 140737488351232) : Ev (fun k => r02_Parts.j0 k s (number_parts.w0 s : Nat) ((number_parts.w1 s : Int) - (number_parts.w0 s : Int)) (number_parts.w1 s : Nat) 0 (number_parts.isDot s (number_parts.w1 s))) (refParts s) := by
  have hb1 := w1_bd s; have hj := parts_j1 s hs; refine ev_step ?_
  simp only [r02_Parts.j0]; refine ev_ite (fun h => ?_) (fun h => ?_)
  · have h1 := dot_lt h
    have h2 := p1_bd h; rw [w64 (x := (number_parts.w1 s : Int) + 1) (by omega) (by omega), show ((number_parts.w1 s : Int) + 1) = ((number_parts.w1 s + 1 : Nat) : Int) by omega]; refine ev_bind (digits_ev s hs _ (by omega)) ?_
    have e1 : number_parts.stop s (number_parts.w1 s + 1) = number_parts.p1 s := by
      unfold number_parts.p1; rw [if_pos h]
    rw [e1]; refine ev_ite (fun h3 => ?_) (fun h3 => ?_)
    · have e2 : number_parts.at2 s = number_parts.p1 s := by
        unfold number_parts.at2; rw [if_pos h, if_neg (by omega)]
      rw [w64 (by omega) (by omega)]; have e3 : ((number_parts.w1 s + 1 : Nat) : Int) + ((number_parts.p1 s : Int) - ((number_parts.w1 s + 1 : Nat) : Int)) = (number_parts.at2 s : Nat) := by omega
      have e4 : ((number_parts.p1 s : Int) - ((number_parts.w1 s + 1 : Nat) : Int)) = (pn s : Nat) := by unfold pn; omega
      rw [e3, e4]; exact hj
    have e2 : number_parts.at2 s = number_parts.w1 s := by
      unfold number_parts.at2; rw [if_pos h, if_pos (by omega)]
    have e4 : ((number_parts.p1 s : Int) - ((number_parts.w1 s + 1 : Nat) : Int)) = (pn s : Nat) := by unfold pn; omega
    rw [e4]; rw [e2] at hj; exact hj
  have e2 : number_parts.at2 s = number_parts.w1 s := by
    unfold number_parts.at2; rw [if_neg h]
  have e3 : pn s = 0 := by unfold pn; omega
  rw [e2, e3] at hj; exact hj
theorem parts_ev (s : ByteArray) (hs : s.size ≤ 140737488351232) : Ev (fun k => r02_Parts.f k s) (refParts s) := by
  have hb := w0_bd s; have hb1 := w1_bd s; have hj := parts_j0 s hs; unfold r02_Parts.f; refine ev_bindc (sign_f s 0) ?_
  have e0 : ((number_parts.sgn s 0 : Int) - ((0 : Nat) : Int)) = (number_parts.w0 s : Nat) := by
    rw [show number_parts.sgn s 0 = number_parts.w0 s from rfl]; omega
  rw [e0]; refine ev_bind (digits_ev s hs _ hb) ?_
  rw [show number_parts.stop s (number_parts.w0 s) = number_parts.w1 s from rfl]; rw [w64 (x := (number_parts.w0 s : Int) + ((number_parts.w1 s : Int) - (number_parts.w0 s : Int))) (by omega) (by omega), show (number_parts.w0 s : Int) + ((number_parts.w1 s : Int) - (number_parts.w0 s : Int)) = (number_parts.w1 s : Nat) by omega]; refine ev_ite (fun h => ev_pos (by omega) ?_) (fun h => ?_)
  · have : number_parts.isDot s (number_parts.w1 s) = (bt s (number_parts.w1 s : Nat) == 46) := by
      unfold number_parts.isDot; rw [dt_ (by omega)]; rfl
    rw [this] at hj; exact hj
  have : number_parts.isDot s (number_parts.w1 s) = false := by
    unfold number_parts.isDot; rw [df_ (by omega)]; rfl
  rw [this] at hj; exact hj
def expOf (s : ByteArray) : ByteArray := if number_parts.hasE s = true then s.extract (number_parts.at2 s + 1) (number_parts.x1 s) else ⟨#[]⟩
/-- The program's parts. -/
theorem nparts (s : ByteArray) (hs : s.size ≤ 140737488351232) : number_parts.f s = some (if noNum s = true then (false, ⟨#[]⟩, ⟨#[]⟩, ⟨#[]⟩, 0) else
    (number_parts.neg s 0, s.extract (number_parts.w0 s) (number_parts.w1 s), number_parts.part s, expOf s, (endOf s : Int))) := by
  unfold number_parts.f noNum expOf endOf; rw [if_pos hs]; by_cases h : number_parts.w1 s = number_parts.w0 s ∧ number_parts.at2 s = number_parts.w1 s
  · rw [if_pos h, if_pos (dt_ h)]
  rw [if_neg h, if_neg (fun k => h (od_ k))]; by_cases h2 : number_parts.hasE s = true
  · rw [if_pos h2, if_pos h2, if_pos h2]
  rw [if_neg h2, if_neg h2, if_neg h2]
end Go.Proofs.Ytofdhdafabmhmaa.PureNu
end
section
/- Digits times a scale, rounded: by the program and by the document. Conditions: as each statement says. -/
namespace Go.Proofs.Ytofdhdafabmhmaa.PureNv
open Go.RowKit Go.Proofs.YtofdhdafabmhmaaW.PrintWords Go.Proofs.YtofdhdafabmhmaaW.PrintMore Go.Proofs.Ytofdhdafabmhmaa.Evs Go.Proofs.Ytofdhdafabmhmaa.Opn Go.Proofs.Ytofdhdafabmhmaa.PLr Go.Proofs.Ytofdhdafabmhmaa.Dig
def IsScale (sc : Int) : Prop := sc = 1 ∨ sc = 64 ∨ sc = 1000
theorem IsScale.bd {sc : Int} (h : IsScale sc) : 1 ≤ sc ∧ sc ≤ 1000 := by
  rcases h with rfl | rfl | rfl <;> decide

/-! ### The document's product -/
theorem rscaled_l1 : ∀ (n : Nat) (c : Int) (acc : List Int), 0 ≤ c → c ≤ 1000000 → q c n = 0 → acc.length + n ≤ 1000000 → Ev (fun k => r02_scaled.l1 k acc c) (acc ++ cdig n c)
  | 0, c, acc, h0, hm, h1, h2 => by
    have : c = 0 := h1
    subst this; refine ev_step ?_
    simp only [r02_scaled.l1]; refine ev_neg (by omega) (ev_eq ?_)
    show acc = acc ++ []
    rw [List.append_nil]
  | n + 1, c, acc, h0, hm, h1, h2 => by
    refine ev_step ?_
    simp only [r02_scaled.l1]; refine ev_ite (fun hc => ev_pos (by omega) ?_) (fun hc => ?_)
    · rw [Int.tmod_eq_emod_of_nonneg h0, Int.tdiv_eq_ediv_of_nonneg h0, w64 (by omega) (by omega)]
      have hi := rscaled_l1 n (c / 10) (acc ++ [c % 10]) (by omega) (by omega) h1 (by simp only [List.length_append, List.length_cons, List.length_nil]; omega); rw [List.append_assoc] at hi; unfold cdig; rw [if_pos hc]; exact hi
    unfold cdig; rw [if_neg hc, List.append_nil]; exact ev_eq rfl
theorem rd_at (pre : List Int) (x : Int) (rest : List Int) : rd (pre ++ x :: rest) ((pre.length : Nat) : Int) = x := by
  unfold rd; rw [Int.toNat_natCast, List.getD_eq_getElem?_getD, List.getElem?_append_right (Nat.le_refl _), Nat.sub_self]; rfl
theorem q3 {c : Int} (h0 : 0 ≤ c) (h1 : c < 1000) : q c 3 = 0 := by
  show c / 10 / 10 / 10 = 0
  omega
theorem rscaled_l0 {sc : Int} (hs : IsScale sc) (d : List Int) (hd : d.length ≤ 900000) : ∀ (rest pre acc : List Int) (c : Int), d = pre ++ rest → Dg rest → 0 ≤ c → c < sc → acc.length ≤ pre.length →
    Ev (fun k => r02_scaled.l0 k d sc acc c ((pre.length : Nat) : Int)) (acc ++ (mulLow sc rest c ++ cdig 3 (carry sc rest c)))
  | [], pre, acc, c, he, hr, h0, h1, h2 => by
    have hb := hs.bd; have hl : d.length = pre.length := by rw [he]; simp
    refine ev_step ?_
    simp only [r02_scaled.l0]; exact ev_neg (by omega) (rscaled_l1 3 c acc h0 (by omega) (q3 h0 (by omega)) (by omega))
  | x :: rest, pre, acc, c, he, hr, h0, h1, h2 => by
    have hb := hs.bd; have hl : d.length = pre.length + (rest.length + 1) := by rw [he]; simp
    have hx := mul_bd hr.head (show 0 ≤ sc by omega); refine ev_step ?_
    simp only [r02_scaled.l0]; refine ev_pos (by omega) (ev_pos (by omega) (ev_pos (by omega) ?_))
    have e : rd d ((pre.length : Nat) : Int) = x := by rw [he]; exact rd_at pre x rest
    rw [e, w64 (x := x * sc) (by omega) (by omega), w64 (x := x * sc + c) (by omega) (by omega), Int.tmod_eq_emod_of_nonneg (by omega), Int.tdiv_eq_ediv_of_nonneg (by omega), w64 (x := (x * sc + c) / 10) (by omega) (by omega), w64 (x := ((pre.length : Nat) : Int) + 1) (by omega) (by omega)]; have hi := rscaled_l0 hs d hd rest (pre ++ [x]) (acc ++ [(x * sc + c) % 10]) ((x * sc + c) / 10) (by rw [he, List.append_assoc]; rfl) hr.tail (by omega) (by omega) (by simp only [List.length_append, List.length_cons, List.length_nil]; omega); rw [List.length_append, List.append_assoc] at hi; exact hi
theorem rscaled_ev {sc : Int} (hs : IsScale sc) (d : List Int) (hd : d.length ≤ 900000) (hg : Dg d) : Ev (fun k => r02_scaled.f k d sc) (prod sc d) := by
  have hb := hs.bd; exact rscaled_l0 hs d hd d [] [] 0 rfl hg (by omega) (by omega) (Nat.le_refl _)

/-! ### The document's rounding -/
def M1 : Int := 68719476737
def T (out : List Int) (b : Int) : Int :=
  (if b < 0 then min M1 (m10 (L out) (-b).toNat) else min M1 (L (out.drop b.toNat))) + (if 0 < b ∧ out.getD (b.toNat - 1) 0 ≥ 5 then 1 else 0)
theorem round_l1_neg (out : List Int) (b : Int) (hb : b < 0) : ∀ (j : Nat) (n : Int), j ≤ 100000 → 0 ≤ n → Ev (fun k => r02_round.l1 k out b (min M1 n) (-(j : Int))) (min M1 (m10 n j)) := by
  intro j; induction j with
  | zero =>
    intro n hj hn; refine ev_step ?_
    simp only [r02_round.l1]; exact ev_neg (by omega) (ev_neg (by omega) (ev_eq rfl))
  | succ j ih =>
    intro n hj hn; refine ev_step ?_
    simp only [r02_round.l1]; have hM : M1 = 68719476737 := rfl; refine ev_pos (by omega) ?_
    rw [mn_eq, w64 (x := 10 * min M1 n) (by omega) (by omega), w64 (x := -((j + 1 : Nat) : Int) + 1) (by omega) (by omega), show -((j + 1 : Nat) : Int) + 1 = -(j : Int) by omega,
      show min (68719476737 : Int) (10 * min M1 n) = min M1 (10 * n) by omega]
    exact ih (10 * n) (by omega) (by omega)
theorem round_l1_pos (out : List Int) (b : Int) (hb : 0 ≤ b) (hb2 : b ≤ 10000) (n : Int) (hn : 0 ≤ n) (hn2 : n ≤ M1) : Ev (fun k => r02_round.l1 k out b n b) (n + (if 0 < b ∧ out.getD (b.toNat - 1) 0 ≥ 5 then 1 else 0)) := by
  have hM : M1 = 68719476737 := rfl; refine ev_step ?_
  simp only [r02_round.l1]; refine ev_neg (by omega) (ev_ite (fun h1 => ?_) (fun h1 => ?_))
  · have e : rd out (wrap64 (b - 1)) = out.getD (b.toNat - 1) 0 := by
      unfold rd; rw [w64 (by omega) (by omega), show (b - 1).toNat = b.toNat - 1 by omega]
    refine ev_ite (fun h2 => ?_) (fun h2 => ?_)
    · rw [w64 (x := b - 1) (by omega) (by omega)] at e ⊢
      refine ev_pos (by omega) (ev_pos (by omega) ?_)
      rw [e]; refine ev_ite (fun h3 => ?_) (fun h3 => ?_)
      · rw [if_pos ⟨h1, h3⟩, w64 (by omega) (by omega)]
        exact ev_eq rfl
      rw [if_neg (fun k => h3 k.2), Int.add_zero]; exact ev_eq rfl
    rw [if_neg]
    · rw [Int.add_zero]
      exact ev_eq rfl
    intro k; have := k.2
    rw [List.getD_eq_getElem?_getD, List.getElem?_eq_none (by omega)] at this; simp at this
  rw [if_neg (fun k => h1 k.1), Int.add_zero]; exact ev_eq rfl
theorem round_j1 (out : List Int) (hg : Dg out) (b : Int) (hb1 : -10000 ≤ b) (hb2 : b ≤ 10000) : Ev (fun k => r02_round.j1 k out b (if b < 0 then min M1 (L out) else min M1 (L (out.drop b.toNat)))) (T out b) := by
  have hM : M1 = 68719476737 := rfl; refine ev_step ?_
  simp only [r02_round.j1]; unfold T; by_cases hb : b < 0
  · rw [if_pos hb, if_pos hb, if_neg (by omega), Int.add_zero]
    have h := round_l1_neg out b hb (-b).toNat (L out) (by omega) (L_nonneg hg); rw [show -(((-b).toNat : Nat) : Int) = b by omega] at h; exact h
  rw [if_neg hb, if_neg hb]; have := L_nonneg (hg.drop b.toNat)
  exact round_l1_pos out b (by omega) hb2 _ (by omega) (by omega)
theorem drop_cons (out : List Int) (j : Nat) (h : j < out.length) : L (out.drop j) = out.getD j 0 + 10 * L (out.drop (j + 1)) := by
  rw [List.drop_eq_getElem_cons h, List.getD_eq_getElem?_getD, List.getElem?_eq_getElem h]; rfl
theorem round_l0 (out : List Int) (hg : Dg out) (hl : out.length ≤ 1000000) (b : Int) (hb1 : -10000 ≤ b) (hb2 : b ≤ 10000) : ∀ j : Nat, j ≤ out.length → (b ≤ j ∨ out.length = j) → Ev (fun k => r02_round.l0 k out b (min M1 (L (out.drop j))) ((j : Int) - 1)) (T out b)
  | 0, hj, hb => by
    have h := round_j1 out hg b hb1 hb2; refine ev_step ?_
    simp only [r02_round.l0]; refine ev_neg (by omega) ?_
    by_cases hn : b < 0
    · rw [if_pos hn] at h
      exact h
    rw [if_neg hn] at h; rcases hb with hb | hb
    · rw [show b.toNat = 0 by omega] at h
      exact h
    have e : out = [] := List.eq_nil_of_length_eq_zero hb; subst e; rw [List.drop_nil] at h ⊢; exact h
  | j + 1, hj, hb => by
    have hM : M1 = 68719476737 := rfl; refine ev_step ?_
    simp only [r02_round.l0]; refine ev_pos (by omega) (ev_ite (fun h1 => ev_pos (by omega) (ev_pos (by omega) ?_)) (fun h1 => ?_))
    · have e : rd out (((j + 1 : Nat) : Int) - 1) = out.getD j 0 := by
        unfold rd; rw [show (((j + 1 : Nat) : Int) - 1).toNat = j by omega]
      have hx := hg.get j; have hY := L_nonneg (hg.drop (j + 1)); rw [e, mn_eq, w64 (x := 10 * min M1 (L (out.drop (j + 1)))) (by omega) (by omega), w64 (x := 10 * min M1 (L (out.drop (j + 1))) + out.getD j 0) (by omega) (by omega), w64 (x := ((j + 1 : Nat) : Int) - 1 - 1) (by omega) (by omega),
        show min (68719476737 : Int) (10 * min M1 (L (out.drop (j + 1))) + out.getD j 0) = min M1 (out.getD j 0 + 10 * L (out.drop (j + 1))) by omega, ← drop_cons out j (by omega), show ((j + 1 : Nat) : Int) - 1 - 1 = (j : Int) - 1 by omega]
      exact round_l0 out hg hl b hb1 hb2 j (by omega) (by omega)
    have h := round_j1 out hg b hb1 hb2; rw [if_neg (show ¬ b < 0 by omega)] at h; have e : L (out.drop b.toNat) = L (out.drop (j + 1)) := by
      rcases hb with hb | hb
      · rw [show b.toNat = j + 1 by omega]
      rw [List.drop_eq_nil_of_le (by omega), List.drop_eq_nil_of_le (by omega)]
    rw [e] at h; exact h
theorem round_ev (out : List Int) (hg : Dg out) (hl : out.length ≤ 1000000) (b : Int) (hb1 : -10000 ≤ b) (hb2 : b ≤ 10000) : Ev (fun k => r02_round.f k out b) (T out b) := by
  have h := round_l0 out hg hl b hb1 hb2 out.length (Nat.le_refl _) (Or.inr rfl); rw [List.drop_length] at h; unfold r02_round.f; rw [w64 (by omega) (by omega)]; exact h
/-- What is told is the rounded value, or both are too great. -/
theorem T_S {sc : Int} (hs : IsScale sc) (d : List Int) (hg : Dg d) (b : Int) : (S (L d * sc) b ≤ 68719476736 ∧ T (prod sc d) b = S (L d * sc) b) ∨ (68719476736 < S (L d * sc) b ∧ 68719476736 < T (prod sc d) b) := by
  have hM : M1 = 68719476737 := rfl; have hb := hs.bd; have hL := prod_L hb.1 hb.2 hg; have hp := prod_dg sc d; unfold T S; by_cases h : b < 0
  · rw [if_pos h, if_pos h, if_neg (by omega), hL]
    omega
  rw [if_neg h, if_neg h, L_drop hp, hL, L_get hp, hL]; have : 0 ≤ q (L d * sc) b.toNat := q_nonneg _ (Int.mul_nonneg (L_nonneg hg) (by omega))
  split <;> omega

/-! ### The program's product -/
theorem rd_rev (l : List Int) (h : l ≠ []) : rd l.reverse 0 = l.getD (l.length - 1) 0 := by
  have h1 := List.length_pos_iff.2 h; unfold rd; rw [List.getD_eq_getElem?_getD, List.getD_eq_getElem?_getD, show (0 : Int).toNat = 0 from rfl, List.getElem?_reverse h1]; rfl
def fin (sc W : Int) (l : List Int) (c : Int) : Int := W * sc + c + (if (l.length : Int) > 0 ∧ rd l 0 ≥ 5 then 1 else 0)
theorem set_mid (pre : List Int) (x y : Int) (done : List Int) : ((pre ++ x :: done).set pre.length y) = pre ++ y :: done := by
  rw [List.set_append_right _ _ (Nat.le_refl _), Nat.sub_self]; rfl
theorem l3_ev {sc : Int} (hs : IsScale sc) (W : Int) (hW : 0 ≤ W) (hW2 : W ≤ 10000000000000) : ∀ (lo done : List Int) (c : Int), Dg lo → 0 ≤ c → c < sc → lo.length + done.length ≤ 1000000 →
    Ev (fun k => number_scaled.l3 k sc W (lo.reverse ++ done) c ((lo.length : Int) - 1)) (fin sc W ((mulLow sc lo c).reverse ++ done) (carry sc lo c), decide (fin sc W ((mulLow sc lo c).reverse ++ done) (carry sc lo c) ≤ 68719476736))
  | [], done, c, hd, h0, h1, hl => by
    have hb := hs.bd; have hws : 0 ≤ W * sc ∧ W * sc ≤ 10000000000000000 := by
      rcases hs with rfl | rfl | rfl <;> omega
    refine ev_step ?_
    simp only [number_scaled.l3]; refine ev_neg (by simp) ?_
    show Ev _ (fin sc W done c, decide (fin sc W done c ≤ 68719476736))
    simp only [List.reverse_nil, List.nil_append]; rw [w64 (x := W * sc) (by omega) (by omega), w64 (x := W * sc + c) (by omega) (by omega), w64 (x := W * sc + c + 1) (by omega) (by omega)]; refine ev_ite (fun h2 => ev_pos (by omega) (ev_ite (fun h3 => ?_) (fun h3 => ?_))) (fun h2 => ?_)
    · have : fin sc W done c = W * sc + c + 1 := by unfold fin; rw [if_pos ⟨h2, h3⟩]
      rw [this]; exact ev_eq rfl
    · have : fin sc W done c = W * sc + c := by unfold fin; rw [if_neg (fun k => h3 k.2)]; omega
      rw [this]; exact ev_eq rfl
    have : fin sc W done c = W * sc + c := by unfold fin; rw [if_neg (fun k => h2 k.1)]; omega
    rw [this]; exact ev_eq rfl
  | x :: lo, done, c, hd, h0, h1, hl => by
    have hb := hs.bd; have hx := hd.head; have hm := mul_bd hx (show 0 ≤ sc by omega); have hlen : (x :: lo).length = lo.length + 1 := rfl; refine ev_step ?_
    simp only [number_scaled.l3]; have e0 : (x :: lo).reverse ++ done = lo.reverse ++ x :: done := by simp
    have e1 : (((x :: lo).length : Nat) : Int) - 1 = ((lo.reverse.length : Nat) : Int) := by rw [List.length_reverse, hlen]; omega
    rw [e0, e1]; have e2 : rd (lo.reverse ++ x :: done) ((lo.reverse.length : Nat) : Int) = x := rd_at _ _ _; have e3 : (((lo.reverse.length : Nat) : Int)).toNat = lo.reverse.length := Int.toNat_natCast _; have hl2 : (lo.reverse ++ x :: done).length = lo.length + 1 + done.length := by simp only [List.length_append, List.length_reverse, List.length_cons]; omega
    have hl3 : lo.reverse.length = lo.length := List.length_reverse; refine ev_pos (by omega) (ev_pos (by omega) (ev_pos (by omega) ?_))
    rw [e2, e3, set_mid, w64 (x := x) (by omega) (by omega), w64 (x := x * sc) (by omega) (by omega), w64 (x := x * sc + c) (by omega) (by omega), Int.tmod_eq_emod_of_nonneg (by omega), Int.tdiv_eq_ediv_of_nonneg (by omega), w64 (x := (x * sc + c) / 10) (by omega) (by omega),
      show ((x * sc + c) % 10) % 256 = (x * sc + c) % 10 by omega, w64 (x := ((lo.reverse.length : Nat) : Int) - 1) (by omega) (by omega), hl3]
    have hi := l3_ev hs W hW hW2 lo (((x * sc + c) % 10) :: done) ((x * sc + c) / 10) hd.tail (by omega) (by omega) (by simp only [List.length_cons] at hl ⊢; omega); have e4 : (mulLow sc (x :: lo) c).reverse ++ done = (mulLow sc lo ((x * sc + c) / 10)).reverse ++ ((x * sc + c) % 10) :: done := by
      show (((x * sc + c) % 10) :: mulLow sc lo ((x * sc + c) / 10)).reverse ++ done = _
      simp
    rw [e4]; exact hi
theorem l2_ev (d : List Int) (hd : d.length ≤ 10000) (point sc W : Int) (hp : -10000 ≤ point ∧ point ≤ 10000) (r : Int × Bool)
    (h : Ev (fun k => number_scaled.l3 k sc W (List.replicate (-point).toNat 0 ++ d.drop (min d.length point.toNat)) 0 (((List.replicate (-point).toNat (0 : Int) ++ d.drop (min d.length point.toNat)).length : Int) - 1)) r) :
    ∀ (j i : Nat), i + j = (-point).toNat → Ev (fun k => number_scaled.l2 k d point sc W (List.replicate i 0) (mx 0 (wrap64 (-point))) (i : Nat)) r
  | 0, i, hij => by
    obtain rfl : i = (-point).toNat := by omega
    refine ev_step ?_
    simp only [number_scaled.l2]; rw [mx_eq, mn_eq, mx_eq, w64 (x := -point) (by omega) (by omega)]; have e : (min (d.length : Int) (max 0 point)).toNat = min d.length point.toNat := by omega
    refine ev_neg (by omega) (ev_pos (by omega) (ev_pos (by omega) ?_))
    rw [e]; refine ev_bindc rfl (ev_pos (by simp only [List.length_replicate, List.length_drop]; omega) (ev_bindc rfl ?_))
    rw [w64 (by simp only [List.length_append, List.length_replicate, List.length_drop]; omega) (by simp only [List.length_append, List.length_replicate, List.length_drop]; omega)]; exact h
  | j + 1, i, hij => by
    refine ev_step ?_
    simp only [number_scaled.l2]; rw [mx_eq, w64 (x := -point) (by omega) (by omega)]; refine ev_pos (by omega) (ev_pos (by simp only [List.length_replicate]; omega) ?_)
    have hi := l2_ev d hd point sc W hp r h j (i + 1) (by omega); rw [mx_eq, w64 (x := -point) (by omega) (by omega)] at hi; rw [w64 (x := (i : Int) + 1) (by omega) (by omega), show List.replicate i (0 : Int) ++ [0] = List.replicate (i + 1) 0 from List.replicate_succ'.symm]; exact hi
theorem l1_ev (d : List Int) (hg : Dg d) (hd : d.length ≤ 10000) (point sc : Int) (hp : -10000 ≤ point ∧ point ≤ 13) (r : Int × Bool)
    (h : Ev (fun k => number_scaled.l2 k d point sc (hv d point.toNat) [] (mx 0 (wrap64 (-point))) 0) r) :
    ∀ (j i : Nat), i + j = point.toNat → Ev (fun k => number_scaled.l1 k d point sc (hv d i) (mx 0 point) (i : Nat)) r
  | 0, i, hij => by
    obtain rfl : i = point.toNat := by omega
    refine ev_step ?_
    simp only [number_scaled.l1]; rw [mx_eq 0 point]; exact ev_neg (by omega) h
  | j + 1, i, hij => by
    have h0 := hv_nonneg hg i; have h1 := hv_lt hg i; have h2 := m10_13 (i := i) (by omega); have hx := hg.get i; refine ev_step ?_
    simp only [number_scaled.l1]; rw [mx_eq 0 point]; refine ev_pos (by omega) ?_
    have hi := l1_ev d hg hd point sc hp r h j (i + 1) (by omega); rw [mx_eq 0 point] at hi; have e : rd d ((i : Nat) : Int) = d.getD i 0 := by unfold rd; rw [Int.toNat_natCast]
    have e1 : hv d (i + 1) = 10 * hv d i + d.getD i 0 := rfl; rw [e, w64 (x := hv d i * 10) (by omega) (by omega), w64 (x := d.getD i 0) (by omega) (by omega), w64 (x := hv d i * 10 + d.getD i 0) (by omega) (by omega), w64 (x := (i : Int) + 1) (by omega) (by omega)]; refine ev_ite (fun h3 => ev_pos (by omega) ?_) (fun h3 => ?_)
    · rw [show hv d i * 10 + d.getD i 0 = hv d (i + 1) by omega]
      exact hi
    have e2 : d.getD i 0 = 0 := by
      rw [List.getD_eq_getElem?_getD, List.getElem?_eq_none (by omega)]; rfl
    rw [show hv d i * 10 = hv d (i + 1) by omega]; exact hi
/-- What the loop over the low digits tells is the rounded value. -/
theorem fin_S {sc : Int} (hs : IsScale sc) (d : List Int) (hg : Dg d) (point : Int) :
    fin sc (hv d point.toNat) ((mulLow sc (List.replicate (-point).toNat 0 ++ d.drop (min d.length point.toNat)).reverse 0).reverse) (carry sc (List.replicate (-point).toNat 0 ++ d.drop (min d.length point.toNat)).reverse 0) = S (L d.reverse * sc) ((d.length : Int) - point) := by
  have hb := hs.bd; have key : ∀ (lo : List Int) (W : Int), Lw lo W = L d.reverse → (lo.length : Int) = (d.length : Int) - point → fin sc W (mulLow sc lo 0).reverse (carry sc lo 0) = S (L d.reverse * sc) ((d.length : Int) - point) := by
    intro lo W h1 h2; have e1 := carry_q sc W lo 0; rw [h1, Int.add_zero] at e1; unfold S; rw [if_neg (by omega), show ((d.length : Int) - point).toNat = lo.length by omega, e1]; unfold fin; rw [List.length_reverse, mulLow_len]; congr 1
    by_cases h3 : lo = []
    · rw [h3] at h2 ⊢
      rw [if_neg (by simp), if_neg (by simp only [List.length_nil] at h2; omega)]
    have h4 := List.length_pos_iff.2 h3; have h5 : mulLow sc lo 0 ≠ [] := by
      intro k; have := mulLow_len sc lo 0
      rw [k] at this; simp only [List.length_nil] at this; omega
    rw [rd_rev _ h5, mulLow_len, mulLow_get sc W lo 0 (lo.length - 1) (by omega), h1, Int.add_zero]; by_cases h6 : q (L d.reverse * sc) (lo.length - 1) % 10 ≥ 5
    · rw [if_pos ⟨by omega, h6⟩, if_pos ⟨by omega, h6⟩]
    rw [if_neg (fun k => h6 k.2), if_neg (fun k => h6 k.2)]
  by_cases h1 : point < 0
  · have e : point.toNat = 0 := by omega
    rw [e, Nat.min_zero, List.drop_zero]; have e2 : (List.replicate (-point).toNat (0 : Int) ++ d).reverse = d.reverse ++ List.replicate (-point).toNat 0 := by rw [List.reverse_append, List.reverse_replicate]
    rw [e2]; refine key _ _ ?_ ?_
    · show Lw (d.reverse ++ List.replicate (-point).toNat 0) 0 = L d.reverse
      rw [Lw_zero, L_app_zeros]
    rw [List.length_append, List.length_reverse, List.length_replicate]; omega
  have e : (-point).toNat = 0 := by omega
  rw [e]; by_cases h2 : point ≤ d.length
  · have e2 : min d.length point.toNat = point.toNat := by omega
    rw [e2]; show fin sc (hv d point.toNat) (mulLow sc (d.drop point.toNat).reverse 0).reverse (carry sc (d.drop point.toNat).reverse 0) = _
    refine key _ _ ?_ ?_
    · rw [hv_take _ (by omega), ← L_app, ← List.reverse_append, List.take_append_drop]
    rw [List.length_reverse, List.length_drop]; omega
  have e2 : min d.length point.toNat = d.length := by omega
  rw [e2, List.drop_length]; obtain ⟨j, hj⟩ : ∃ j : Nat, point.toNat = d.length + j := ⟨point.toNat - d.length, by omega⟩
  rw [hj, hv_more, hv_take _ (Nat.le_refl _), List.take_length]; unfold S; rw [if_pos (show (d.length : Int) - point < 0 by omega), show (-((d.length : Int) - point)).toNat = j by omega, m10_mul]; show m10 (L d.reverse) j * sc + 0 + (if ((([] : List Int).length : Nat) : Int) > 0 ∧ rd [] 0 ≥ 5 then 1 else 0) = _
  rw [if_neg (by simp)]; omega
/-- The program's rounded value, of digits that do not begin with a nought. -/
theorem j1_ev {sc : Int} (hs : IsScale sc) (d : List Int) (hg : Dg d) (hd : d.length ≤ 10000) (point : Int) (hp : -10000 ≤ point ∧ point ≤ 10000) (hne : ∀ x xs, d = x :: xs → 1 ≤ x) :
    ∃ n ok, Ev (fun k => number_scaled.j1 k d point sc) (n, ok) ∧ (ok = true → n = S (L d.reverse * sc) ((d.length : Int) - point) ∧ n ≤ 68719476736) ∧ (ok = false → 68719476736 < S (L d.reverse * sc) ((d.length : Int) - point)) := by
  have hb := hs.bd; by_cases h0 : d = []
  · subst h0
    refine ⟨0, true, ev_step ?_, fun _ => ⟨?_, by decide⟩, fun h => by cases h⟩
    · simp only [number_scaled.j1]
      refine ev_pos rfl (ev_step ?_)
      simp only [number_scaled.j2]; exact ev_pos trivial (ev_eq rfl)
    show 0 = S (0 * sc) _
    rw [Int.zero_mul, S_zero]
  have hl := List.length_pos_iff.2 h0; have hr : d.reverse ≠ [] := by simpa using h0
  have hlast : 1 ≤ d.reverse.getLast hr := by
    rw [List.getLast_reverse]; match d, h0, hne with
    | x :: xs, _, hne => exact hne x xs rfl
  have hlr : d.reverse.length = d.length := List.length_reverse; by_cases h1 : point < -5
  · refine ⟨0, true, ev_step ?_, fun _ => ⟨?_, by decide⟩, fun h => by cases h⟩
    · simp only [number_scaled.j1]
      refine ev_neg (by omega) (ev_step ?_)
      simp only [number_scaled.j2]; exact ev_pos (dt_ h1) (ev_eq rfl)
    have := S_small hb.1 hb.2 hg.rev h1
    rw [hlr] at this; exact this.symm
  by_cases h2 : point > 13
  · refine ⟨0, false, ev_step ?_, (fun h => by cases h), fun _ => ?_⟩
    · simp only [number_scaled.j1]
      refine ev_neg (by omega) (ev_step ?_)
      simp only [number_scaled.j2]; exact ev_neg (by simp; omega) (ev_pos h2 (ev_eq rfl))
    have := S_big hb.1 hg.rev hr hlast h2
    rw [hlr] at this; exact this
  have e := fin_S hs d hg point; have hW := hv_nonneg hg point.toNat; have hW2 := hv_lt hg point.toNat; have hW3 := m10_13 (i := point.toNat) (by omega); have hlo : Dg (List.replicate (-point).toNat 0 ++ d.drop (min d.length point.toNat)).reverse := ((Dg.zeros _).app (hg.drop _)).rev; have hll : (List.replicate (-point).toNat (0 : Int) ++ d.drop (min d.length point.toNat)).length ≤ 20000 := by
    rw [List.length_append, List.length_replicate, List.length_drop]; omega
  have h3 := l3_ev hs (hv d point.toNat) hW (by omega) (List.replicate (-point).toNat 0 ++ d.drop (min d.length point.toNat)).reverse [] 0 hlo (by omega) (by omega) (by rw [List.length_reverse]; simp only [List.length_nil]; omega); rw [List.append_nil, List.append_nil, List.reverse_reverse, List.length_reverse, e] at h3; refine ⟨_, _, ev_step ?_, fun h => ⟨rfl, od_ h⟩, fun h => ?_⟩
  · simp only [number_scaled.j1]
    refine ev_neg (by omega) (ev_step ?_)
    simp only [number_scaled.j2]; refine ev_neg (by simp; omega) (ev_neg h2 ?_)
    exact l1_ev d hg hd point sc (by omega) _ (l2_ev d hd point sc _ (by omega) _ h3 (-point).toNat 0 (by omega)) point.toNat 0 (by omega)
  have := of_decide_eq_false h
  omega
/-- THE PROGRAM's ROUNDED VALUE. -/
theorem scaled_ev {sc : Int} (hs : IsScale sc) : ∀ (d : List Int), Dg d → d.length ≤ 10000 → ∀ (point : Int), -9000 + d.length ≤ point + 1000 → point ≤ 9000 → 
    ∃ n ok, Ev (fun k => number_scaled.f k d point sc) (n, ok) ∧ (ok = true → n = S (L d.reverse * sc) ((d.length : Int) - point) ∧ n ≤ 68719476736) ∧ (ok = false → 68719476736 < S (L d.reverse * sc) ((d.length : Int) - point))
  | [], hg, hd, point, hp1, hp2 => by
    obtain ⟨n, ok, h1, h2, h3⟩ := j1_ev hs [] hg hd point (by simp only [List.length_nil] at hp1; omega) (fun x xs h => by cases h); refine ⟨n, ok, ev_step ?_, h2, h3⟩
    simp only [number_scaled.f, number_scaled.l0]; exact ev_neg (by simp) h1
  | x :: xs, hg, hd, point, hp1, hp2 => by
    have hx := hg.head; have hlen : (x :: xs).length = xs.length + 1 := rfl; have er : rd (x :: xs) 0 = x := rfl; by_cases h0 : x = 0
    · subst h0
      obtain ⟨n, ok, h1, h2, h3⟩ := scaled_ev hs xs hg.tail (by omega) (point - 1) (by omega) (by omega); have eL : L (0 :: xs).reverse = L xs.reverse := by
        rw [List.reverse_cons, show ([0] : List Int) = List.replicate 1 0 from rfl, L_app_zeros]
      have eb : (((0 :: xs : List Int).length : Nat) : Int) - point = (xs.length : Int) - (point - 1) := by rw [List.length_cons]; omega
      rw [eL, eb]; refine ⟨n, ok, ev_step ?_, h2, h3⟩
      simp only [number_scaled.f, number_scaled.l0]; rw [w64 (x := point - 1) (by omega) (by omega)]; refine ev_pos (by rw [List.length_cons]; omega) (ev_pos (by rw [List.length_cons]; omega) (ev_pos er (ev_pos (by rw [List.length_cons]; omega) ?_)))
      exact h1
    obtain ⟨n, ok, h1, h2, h3⟩ := j1_ev hs (x :: xs) hg hd point (by omega) (fun y ys h => by cases h; omega); refine ⟨n, ok, ev_step ?_, h2, h3⟩
    simp only [number_scaled.f, number_scaled.l0]; refine ev_pos (by rw [List.length_cons]; omega) (ev_pos (by rw [List.length_cons]; omega) (ev_neg (by rw [er]; exact h0) ?_))
    exact h1
end Go.Proofs.Ytofdhdafabmhmaa.PureNv
end
