/- LineBackCardSaid, part 6 of 8: contracts of the program's functions, the words that they use, and the plain laws on what they compute. Conditions: none beyond what the statements say. -/
import Derived.Test.YtofdhdafabmhmaaDoorKLa0
import Derived.Test.YtofdhdafabmhmaaDoorKLa2
import Derived.Test.YtofdhdafabmhmaaDoorKLa4
import Derived.BigRegion
import Derived.BigQuiet
import Derived.Deep.QuietTactic
import Derived.Deep.LoopGhost
import Derived.Deep.DeepCutAuto
import Derived.Tactics
import Derived.Tactics2
import Derived.Test.YtofdhdafabmhmaaDoorProg
import Derived.Lib.LaidTab
import Derived.Lib.ItoaNum
import Derived.Lib.SmallJoins
import Derived.Lib.AppendIntMem
import Derived.Below
import Derived.WalkKit
import Derived.Test.YtofdhdafabmhmaaDoorKLa3
set_option linter.unusedVariables false
set_option linter.unusedSimpArgs false
section
namespace Go.Proofs.YtofdhdafabmhmaaDoor.Giv
open Go.RowKit Go.Proofs.YtofdhdafabmhmaaDoorW.PrintWords Go.Proofs.YtofdhdafabmhmaaDoorW.PrintLast Go.Proofs.YtofdhdafabmhmaaDoorW.PrintMore Go.Proofs.YtofdhdafabmhmaaDoor.PLa
open Go.Proofs.YtofdhdafabmhmaaDoor.Opn Go.BigFrame
def line_Read.text (l : List S67) (k : Int) : ByteArray := if 0 ≤ k ∧ k < (l.length : Int) then (if (rd_T67 l k).f0 = 1 then (rd_T67 l k).f2 else ⟨#[]⟩) else ⟨#[]⟩
def line_Read.num (n : Nat) (l : List S67) (k : Int) : Option Bool := (value_Integer.f n l k).bind fun r => some (decide (r.2.2 = 0) || decide (r.2.2 = 10))
def line_Read.isNum (n : Nat) (l : List S67) (nu k : Int) : Option Bool := if nu < 0 then line_Read.num n l k else some false
def line_Read.isName (nm t : ByteArray) : Option Bool := if nm.toList = [] then ident_Custom.f t else some false
/-- The words of a line: where its number and its span stand, where it ends, its name. -/
def line_Read.l0 : Nat → List S67 → Int → Int → Int → Int → ByteArray → Option (Int × Int × Int × ByteArray)
  | 0, _, _, _, _, _, _ => none
  | n + 1, l, at_, nu, sp, k, nm => (line_Read.isNum n l nu k).bind fun b => if b = true then line_Read.l0 n l at_ k sp (wrap64 (k + 1)) nm else
      (ident_Is.f (line_Read.text l k) ⟨#[115, 112, 97, 110]⟩).bind fun s => if s = true then (if sp < 0 then (if k > at_ then some (nu, k, wrap64 (k + 1), nm) else line_Read.l0 n l at_ nu k (wrap64 (k + 1)) nm) else
        ((line_Read.isName nm (line_Read.text l k)).bind fun c => if c = true then line_Read.l0 n l at_ nu sp (wrap64 (k + 1)) (line_Read.text l k) else some (nu, sp, k, nm)))
      else ((line_Read.isName nm (line_Read.text l k)).bind fun c => if c = true then line_Read.l0 n l at_ nu sp (wrap64 (k + 1)) (line_Read.text l k) else some (nu, sp, k, nm))
def line_Read.fin (n : Nat) (l : List S67) (at_ nu sp k : Int) (nm : ByteArray) : Option (Int × Int × ByteArray × Int × Int) :=
  if k = at_ then some (0, 0, nm, at_, 50) else if sp ≥ 0 ∧ nu < 0 ∧ nm.toList = [] then some (0, 0, nm, k, 50) else
  if nu < 0 then some (if sp ≥ 0 then 4 else 3, if sp ≥ 0 then 1 else 0, nm, k, 0) else
  (value_Integer.f n l nu).bind fun r => if r.2.2 ≠ 0 ∨ r.1 > 10000 ∨ r.1 < -10000 then some (0, 0, ⟨#[]⟩, nu, 52) else
    if r.1 = 0 ∨ (r.1 < 0 ∧ sp ≥ 0) then some (0, 0, ⟨#[]⟩, nu, 50) else some (if sp < 0 then 2 else 4, r.1, nm, k, 0)
def line_Read.keys : List ByteArray := [⟨#[97, 117, 116, 111]⟩, ⟨#[105, 110, 104, 101, 114, 105, 116]⟩, ⟨#[105, 110, 105, 116, 105, 97, 108]⟩, ⟨#[117, 110, 115, 101, 116]⟩, ⟨#[114, 101, 118, 101, 114, 116]⟩]
def line_Read.f (k : Nat) (l0 : List S67) (a1 : Int) : Option (Int × Int × ByteArray × Int × Int) :=
  (value_Keyword.f k l0 a1 line_Read.keys).bind fun r => if r.1 = 0 then (line_auto.f).bind fun t => some (t.1, t.2.1, t.2.2, r.2, 0) else if r.1 > 0 then some (0, 0, ⟨#[]⟩, a1, 51) else
    (line_Read.l0 k l0 a1 (-1) (-1) a1 ⟨#[]⟩).bind fun s => line_Read.fin k l0 a1 s.1 s.2.1 s.2.2.1 s.2.2.2
theorem line_Read.num_mono (l : List S67) (i : Int) (n : Nat) : LeO (line_Read.num n l i) (line_Read.num (n + 1) l i) := LeO.bind (value_Integer.mono _ _ _) (fun _ => LeO.refl _)
theorem line_Read.isNum_mono (l : List S67) (nu i : Int) (n : Nat) : LeO (line_Read.isNum n l nu i) (line_Read.isNum (n + 1) l nu i) := LeO.ite (line_Read.num_mono _ _ _) (LeO.refl _)
theorem line_Read.mono_l : ∀ k, (∀ l a nu sp i nm, LeO (line_Read.l0 k l a nu sp i nm) (line_Read.l0 (k + 1) l a nu sp i nm))
  | 0 => fun _ _ _ _ _ _ r h => by simp [line_Read.l0] at h
  | k + 1 => by
    have ih0 := line_Read.mono_l k
    intro l a nu sp i nm
    unfold line_Read.l0
    refine LeO.bind (line_Read.isNum_mono _ _ _ _) (fun b => LeO.ite (ih0 _ _ _ _ _ _) (LeO.bind (LeO.refl _) (fun s => LeO.ite (LeO.ite (LeO.ite (LeO.refl _) (ih0 _ _ _ _ _ _)) (LeO.bind (LeO.refl _) (fun c => LeO.ite (ih0 _ _ _ _ _ _) (LeO.refl _)))) (LeO.bind (LeO.refl _) (fun c => LeO.ite (ih0 _ _ _ _ _ _) (LeO.refl _))))))
theorem line_Read.mono : ∀ l0 a1 k, LeO (line_Read.f k l0 a1) (line_Read.f (k + 1) l0 a1) := by
  intro l0 a1 k
  unfold line_Read.f line_Read.fin
  refine LeO.bind (value_Keyword.mono _ _ _ _) (fun r => LeO.ite (LeO.refl _) (LeO.ite (LeO.refl _) (LeO.bind (line_Read.mono_l _ _ _ _ _ _ _) (fun s => LeO.ite (LeO.refl _) (LeO.ite (LeO.refl _) (LeO.ite (LeO.refl _) (LeO.bind (value_Integer.mono _ _ _) (fun _ => LeO.refl _))))))))
theorem line_Read.l0_step {n : Nat} {l : List S67} {a nu sp k : Int} {nm : ByteArray} {R : Int × Int × Int × ByteArray} (hf : line_Read.l0 (n + 1) l a nu sp k nm = some R) :
    (decide (nu < 0) = true ∧ Aside0 (line_Read.num n l k = some true) ∧ Aside0 (line_Read.l0 n l a k sp (wrap64 (k + 1)) nm = some R)) ∨
    (((decide (nu < 0) = true ∧ Aside0 (line_Read.num n l k = some false)) ∨ decide (nu < 0) = false) ∧
      ((Aside0 (ident_Is.f (line_Read.text l k) ⟨#[115, 112, 97, 110]⟩ = some true) ∧ decide (sp < 0) = true ∧ decide (a < k) = true ∧ (nu, k, wrap64 (k + 1), nm) = R) ∨
       (Aside0 (ident_Is.f (line_Read.text l k) ⟨#[115, 112, 97, 110]⟩ = some true) ∧ decide (sp < 0) = true ∧ decide (a < k) = false ∧ Aside0 (line_Read.l0 n l a nu k (wrap64 (k + 1)) nm = some R)) ∨
       (((Aside0 (ident_Is.f (line_Read.text l k) ⟨#[115, 112, 97, 110]⟩ = some true) ∧ decide (sp < 0) = false) ∨ Aside0 (ident_Is.f (line_Read.text l k) ⟨#[115, 112, 97, 110]⟩ = some false)) ∧
        (((nm.toList == ([] : List UInt8)) = true ∧ Aside0 (ident_Custom.f (line_Read.text l k) = some true) ∧ Aside0 (line_Read.l0 n l a nu sp (wrap64 (k + 1)) (line_Read.text l k) = some R)) ∨
         ((nm.toList == ([] : List UInt8)) = true ∧ Aside0 (ident_Custom.f (line_Read.text l k) = some false) ∧ (nu, sp, k, nm) = R) ∨
         ((nm.toList == ([] : List UInt8)) = false ∧ (nu, sp, k, nm) = R))))) := by
  rw [line_Read.l0] at hf
  obtain ⟨b, hb, hf⟩ := Option.bind_eq_some_iff.1 hf
  have P : (b = true ∧ decide (nu < 0) = true ∧ Aside0 (line_Read.num n l k = some true)) ∨ (b = false ∧ ((decide (nu < 0) = true ∧ Aside0 (line_Read.num n l k = some false)) ∨ decide (nu < 0) = false)) := by
    unfold line_Read.isNum at hb
    by_cases h : nu < 0
    · rw [if_pos h] at hb
      cases b
      · exact Or.inr ⟨rfl, Or.inl ⟨decide_eq_true h, ⟨hb⟩⟩⟩
      · exact Or.inl ⟨rfl, decide_eq_true h, ⟨hb⟩⟩
    · rw [if_neg h] at hb
      exact Or.inr ⟨(Option.some.inj hb).symm, Or.inr (decide_eq_false h)⟩
  rcases P with ⟨rfl, P1, P2⟩ | ⟨rfl, P⟩
  · rw [if_pos rfl] at hf
    exact Or.inl ⟨P1, P2, ⟨hf⟩⟩
  · rw [if_neg (by decide)] at hf
    refine Or.inr ⟨P, ?_⟩
    obtain ⟨s, hs, hf⟩ := Option.bind_eq_some_iff.1 hf
    have N : ∀ {q : Prop}, ((line_Read.isName nm (line_Read.text l k)).bind fun c => if c = true then line_Read.l0 n l a nu sp (wrap64 (k + 1)) (line_Read.text l k) else some (nu, sp, k, nm)) = some R →
        (((nm.toList == ([] : List UInt8)) = true ∧ Aside0 (ident_Custom.f (line_Read.text l k) = some true) ∧ Aside0 (line_Read.l0 n l a nu sp (wrap64 (k + 1)) (line_Read.text l k) = some R)) ∨
         ((nm.toList == ([] : List UInt8)) = true ∧ Aside0 (ident_Custom.f (line_Read.text l k) = some false) ∧ (nu, sp, k, nm) = R) ∨ ((nm.toList == ([] : List UInt8)) = false ∧ (nu, sp, k, nm) = R)) := fun {_} h => by
      obtain ⟨c, hc, h⟩ := Option.bind_eq_some_iff.1 h
      unfold line_Read.isName at hc
      by_cases e : nm.toList = []
      · rw [if_pos e] at hc
        cases c
        · exact Or.inr (Or.inl ⟨beq_iff_eq.mpr e, ⟨hc⟩, Option.some.inj h⟩)
        · exact Or.inl ⟨beq_iff_eq.mpr e, ⟨hc⟩, ⟨h⟩⟩
      · rw [if_neg e] at hc
        rw [← Option.some.inj hc] at h
        exact Or.inr (Or.inr ⟨beq_eq_false_iff_ne.mpr e, Option.some.inj h⟩)
    cases s
    · exact Or.inr (Or.inr ⟨Or.inr ⟨hs⟩, N (q := True) hf⟩)
    · rw [if_pos rfl] at hf
      by_cases h : sp < 0
      · rw [if_pos h] at hf
        by_cases h2 : k > a
        · rw [if_pos h2] at hf
          exact Or.inl ⟨⟨hs⟩, decide_eq_true h, decide_eq_true h2, Option.some.inj hf⟩
        · rw [if_neg h2] at hf
          exact Or.inr (Or.inl ⟨⟨hs⟩, decide_eq_true h, decide_eq_false h2, ⟨hf⟩⟩)
      · rw [if_neg h] at hf
        exact Or.inr (Or.inr ⟨Or.inl ⟨⟨hs⟩, decide_eq_false h⟩, N (q := True) hf⟩)
/-- The blocks of Read: its words, its line, its place. -/
structure line_Read.St (w w1 : World) (bl bv bk : Nat) (A : Option Addr) (c n : Nat) (kd m : Int) (nm : ByteArray) (k : Int) : Prop where
  l : w1.heap[bl]? = some (.cells #[.slice A n c] 35 (0, 0))
  v : w1.heap[bv]? = some (.cells #[.int .i64 kd, .int .i64 m, .string nm] 41 (0, 0))
  k : w1.heap[bk]? = some (.cells #[.int .i64 k] 3 (0, 0))
  b : Below w.heap.size w w1
  o0 : w.heap.size ≤ bl
  o1 : bl < bv
  o2 : bv < bk
namespace line_Read
section
variable {w w1 w2 : World} {bl bv bk : Nat} {A : Option Addr} {c n : Nat} {kd m : Int} {nm : ByteArray} {k : Int}
theorem St.below (h : St w w1 bl bv bk A c n kd m nm k) (hb : Below w1.heap.size w1 w2) : St w w2 bl bv bk A c n kd m nm k := ⟨blk_below h.l hb, blk_below h.v hb, blk_below h.k hb, below_step h.b hb, h.o0, h.o1, h.o2⟩
theorem St.drewN (h : St w w1 bl bv bk A c n kd m nm k) (i : Nat) : St w (w1.drewN i) bl bv bk A c n kd m nm k := h.below (pw_below_drewN (Below.refl _ _) i)
theorem St.drew (h : St w w1 bl bv bk A c n kd m nm k) : St w w1.drew bl bv bk A c n kd m nm k := h.below (below_drew (Below.refl _ _))
theorem St.setk (h : St w w1 bl bv bk A c n kd m nm k) (k' : Int) : St w (w1.setCell ⟨bk, 0, none⟩ (.int .i64 k')) bl bv bk A c n kd m nm k' :=
  ⟨blk_far h.l (by exact (by have := h.o1; have := h.o2; omega : bl ≠ bk)) _, blk_far h.v (by exact (by have := h.o2; omega : bv ≠ bk)) _, blk_put h.k 0 _ rfl, below_set h.b (by have := h.o0; have := h.o1; have := h.o2; omega), h.o0, h.o1, h.o2⟩
theorem St.setv0 (h : St w w1 bl bv bk A c n kd m nm k) (x : Int) : St w (w1.setCell ⟨bv, 0, none⟩ (.int .i64 x)) bl bv bk A c n x m nm k :=
  ⟨blk_far h.l (by exact (by have := h.o1; omega : bl ≠ bv)) _, blk_put h.v 0 _ rfl, blk_far h.k (by exact (by have := h.o2; omega : bk ≠ bv)) _, below_set h.b (by have := h.o0; have := h.o1; omega), h.o0, h.o1, h.o2⟩
theorem St.setv1 (h : St w w1 bl bv bk A c n kd m nm k) (x : Int) : St w (w1.setCell ⟨bv, 1, none⟩ (.int .i64 x)) bl bv bk A c n kd x nm k :=
  ⟨blk_far h.l (by exact (by have := h.o1; omega : bl ≠ bv)) _, blk_put h.v 1 _ rfl, blk_far h.k (by exact (by have := h.o2; omega : bk ≠ bv)) _, below_set h.b (by have := h.o0; have := h.o1; omega), h.o0, h.o1, h.o2⟩
theorem St.setv2 (h : St w w1 bl bv bk A c n kd m nm k) (x : ByteArray) : St w (w1.setCell ⟨bv, 2, none⟩ (.string x)) bl bv bk A c n kd m x k :=
  ⟨blk_far h.l (by exact (by have := h.o1; omega : bl ≠ bv)) _, blk_put h.v 2 _ rfl, blk_far h.k (by exact (by have := h.o2; omega : bk ≠ bv)) _, below_set h.b (by have := h.o0; have := h.o1; omega), h.o0, h.o1, h.o2⟩
theorem St.cl (h : St w w1 bl bv bk A c n kd m nm k) : w1.cell? ⟨bl, 0, none⟩ = some (.slice A n c) := (blk_cell h.l 0).trans rfl
theorem St.c0 (h : St w w1 bl bv bk A c n kd m nm k) : w1.cell? ⟨bv, 0, none⟩ = some (.int .i64 kd) := (blk_cell h.v 0).trans rfl
theorem St.c1 (h : St w w1 bl bv bk A c n kd m nm k) : w1.cell? ⟨bv, 1, none⟩ = some (.int .i64 m) := (blk_cell h.v 1).trans rfl
theorem St.c2 (h : St w w1 bl bv bk A c n kd m nm k) : w1.cell? ⟨bv, 2, none⟩ = some (.string nm) := (blk_cell h.v 2).trans rfl
theorem St.ck (h : St w w1 bl bv bk A c n kd m nm k) : w1.cell? ⟨bk, 0, none⟩ = some (.int .i64 k) := (blk_cell h.k 0).trans rfl
theorem St.f (h : St w w1 bl bv bk A c n kd m nm k) : w1.frozen? ⟨bv, 0, none⟩ = false ∧ w1.frozen? ⟨bv, 1, none⟩ = false ∧ w1.frozen? ⟨bv, 2, none⟩ = false ∧ w1.frozen? ⟨bk, 0, none⟩ = false := ⟨blk_frozen h.v 0, blk_frozen h.v 1, blk_frozen h.v 2, blk_frozen h.k 0⟩
theorem St.ne (h : St w w1 bl bv bk A c n kd m nm k) : bv ≠ bk ∧ bk ≠ bv ∧ bl ≠ bv ∧ bl ≠ bk ∧ bv ≠ bl ∧ bk ≠ bl := by have := h.o1; have := h.o2; omega
theorem St.C (h : St w w1 bl bv bk A c n kd m nm k) {α : Type} {d : Kd α} {l : List α} (hr : Kd.C d w A n l) : Kd.C d w1 A n l := Kd.C_below hr h.b
end
set_option maxHeartbeats 4000000 in
set_option maxRecDepth 100000 in
theorem text_calls (bk bl : Nat) (A : Option Addr) (c : Nat) (l : List S67) (k : Int) (w : World) (hk : w.cell? ⟨bk, 0, none⟩ = some (.int .i64 k)) (hl : w.cell? ⟨bl, 0, none⟩ = some (.slice A l.length c)) (hr : Kd.C k67 w A l.length l) (hc : l.length ≤ c) :
    Calls Tryd.prog 44 #[.pointer (some ⟨bk, 0, none⟩), .pointer (some ⟨bl, 0, none⟩)] w fun e w' => e = .returned (.string (line_Read.text l k)) ∧ Drawn0 w w' := by
  have hu := Tryd.underlying67
  have hR := Aside0.mk hr
  unfold line_Read.text
  by_cases h : 0 ≤ k ∧ k < (l.length : Int)
  · rw [if_pos h]
    obtain ⟨ad, rfl, h0, h1, h2, h3⟩ := at_T67 hr k h.1 h.2
    have p0 := eq_true h.1
    have p1 := eq_true h.2
    have q0 : decide (0 ≤ k) = true := decide_eq_true h.1
    have q1 : decide (k < (l.length : Int)) = true := decide_eq_true h.2
    by_cases h4 : (rd_T67 l k).f0 = 1
    · rw [if_pos h4]
      have q4 : ((rd_T67 l k).f0 == 1) = true := by rw [h4]; rfl
      clear h h4 hr hc
      go_enter Tryd.func44, Tryd.ntmps44
      go_wp2
      go_ret
      exact ⟨rfl, drs_⟩
    · rw [if_neg h4]
      have q4 : ((rd_T67 l k).f0 == 1) = false := beq_eq_false_iff_ne.2 h4
      clear h h4 hr hc
      go_enter Tryd.func44, Tryd.ntmps44
      go_wp2
      go_ret
      exact ⟨rfl, drs_⟩
  · rw [if_neg h]
    by_cases h0 : 0 ≤ k
    · have q0 : decide (0 ≤ k) = true := decide_eq_true h0
      have q1 : decide (k < (l.length : Int)) = false := decide_eq_false (by omega)
      clear h h0 hr hc
      go_enter Tryd.func44, Tryd.ntmps44
      go_wp2
      go_ret
      exact ⟨rfl, drs_⟩
    · have q0 : decide (0 ≤ k) = false := decide_eq_false h0
      clear h h0 hr hc
      go_enter Tryd.func44, Tryd.ntmps44
      go_wp2
      go_ret
      exact ⟨rfl, drs_⟩
set_option maxHeartbeats 4000000 in
set_option maxRecDepth 100000 in
theorem num_calls (n : Nat) (bl bk : Nat) (A : Option Addr) (c : Nat) (l : List S67) (k : Int) (r : Bool) (w : World) (hl : w.cell? ⟨bl, 0, none⟩ = some (.slice A l.length c)) (hk : w.cell? ⟨bk, 0, none⟩ = some (.int .i64 k)) (hr : Kd.C k67 w A l.length l) (hc : l.length ≤ c) (h : line_Read.num n l k = some r) :
    Calls Tryd.prog 45 #[.pointer (some ⟨bl, 0, none⟩), .pointer (some ⟨bk, 0, none⟩)] w fun e w' => e = .returned (.bool r) ∧ Below w.heap.size w w' := by
  have HR := Aside0.mk hr
  have HC := Aside0.mk hc
  have HB := Aside0.mk (Below.refl w.heap.size w)
  unfold line_Read.num at h
  obtain ⟨⟨r1, r2, r3⟩, hI, h⟩ := Option.bind_eq_some_iff.1 h
  have A1 := Aside0.mk hI
  obtain rfl := Option.some.inj h
  clear hI h hr hc
  dsimp only
  by_cases e0 : r3 = 0
  · have q0 : (r3 == 0) = true := by rw [e0]; rfl
    have q1 : decide (r3 = 0) = true := decide_eq_true e0
    rw [q1]
    clear e0
    go_enter Tryd.func45, Tryd.ntmps45
    go_wp2_with (first | ((with_reducible refine gate_callee (f := 46) rfl ?_); refine goesL_ (some 9) rfl rfl Tryd.func46 (by kernel_rfl) rfl #[.slice A l.length c, .int .i64 k] rfl goa_ ?_; (with_reducible refine (value_Integer.calls n _ _ l k r1 r2 r3 _ ?side1 ?side2 A1.out).mono ?_); (case side1 => repeat (first | exact (Kd.C_below HR.out HB.out) | (with_reducible refine Kd.C_alloc ?_ _) | (with_reducible refine Kd.C_drewN ?_ _) | (with_reducible refine Kd.C_drew ?_))); (case side2 => exact HC.out); rintro e w12 ⟨rfl, hb⟩; refine ⟨_, rfl, ?_⟩; have n0_ := Aside0.mk (below_step bel_ hb); clear hb HB; have HB := n0_; clear n0_))
    go_ret
    exact ⟨rfl, bel_⟩
  · have q0 : (r3 == 0) = false := beq_eq_false_iff_ne.2 e0
    have q1 : decide (r3 = 0) = false := decide_eq_false e0
    rw [q1]
    clear e0
    have q2 : decide (r3 = 10) = (r3 == 10) := by rw [Bool.eq_iff_iff]; simp
    rw [q2]
    clear q2
    go_enter Tryd.func45, Tryd.ntmps45
    go_wp2_with (first | ((with_reducible refine gate_callee (f := 46) rfl ?_); refine goesL_ (some 9) rfl rfl Tryd.func46 (by kernel_rfl) rfl #[.slice A l.length c, .int .i64 k] rfl goa_ ?_; (with_reducible refine (value_Integer.calls n _ _ l k r1 r2 r3 _ ?side1 ?side2 A1.out).mono ?_); (case side1 => repeat (first | exact (Kd.C_below HR.out HB.out) | (with_reducible refine Kd.C_alloc ?_ _) | (with_reducible refine Kd.C_drewN ?_ _) | (with_reducible refine Kd.C_drew ?_))); (case side2 => exact HC.out); rintro e w12 ⟨rfl, hb⟩; refine ⟨_, rfl, ?_⟩; have n0_ := Aside0.mk (below_step bel_ hb); clear hb HB; have HB := n0_; clear n0_))
    go_ret
    exact ⟨rfl, bel_⟩
/-- A block that is there lies ahead of a new one. -/
theorem blt_ {w0 W : World} {g g' : Nat} {o : Obj} (b : Aside0 (w0.heap[g]? = some o)) (hg : g' = W.heap.size) (h : W.heap[g]? = some o := by (with_reducible repeat (first | refine blk_drewN ?_ _ | refine blk_drew ?_ | refine blk_alloc ?_ _)); first | (with_reducible exact Aside0.out (by assumption)) | exact Aside0.out (by assumption)) : g < g' := by
  rw [hg]
  exact blk_lt h
structure Sa (w w1 : World) (bl bv : Nat) (A : Option Addr) (c n : Nat) (kd m : Int) (nm : ByteArray) : Prop where
  l : w1.heap[bl]? = some (.cells #[.slice A n c] 35 (0, 0))
  v : w1.heap[bv]? = some (.cells #[.int .i64 kd, .int .i64 m, .string nm] 41 (0, 0))
  b : Below w.heap.size w w1
  o0 : w.heap.size ≤ bl
  o1 : bl < bv
section
variable {w w1 w2 : World} {bl bv bk : Nat} {A : Option Addr} {c n : Nat} {kd m : Int} {nm : ByteArray} {k : Int}
theorem Sa.below (h : Sa w w1 bl bv A c n kd m nm) (hb : Below w1.heap.size w1 w2) : Sa w w2 bl bv A c n kd m nm := ⟨blk_below h.l hb, blk_below h.v hb, below_step h.b hb, h.o0, h.o1⟩
theorem Sa.drewN (h : Sa w w1 bl bv A c n kd m nm) (i : Nat) : Sa w (w1.drewN i) bl bv A c n kd m nm := h.below (pw_below_drewN (Below.refl _ _) i)
theorem Sa.drew (h : Sa w w1 bl bv A c n kd m nm) : Sa w w1.drew bl bv A c n kd m nm := h.below (below_drew (Below.refl _ _))
theorem Sa.setv0 (h : Sa w w1 bl bv A c n kd m nm) (x : Int) : Sa w (w1.setCell ⟨bv, 0, none⟩ (.int .i64 x)) bl bv A c n x m nm :=
  ⟨blk_far h.l (by exact (by have := h.o1; omega : bl ≠ bv)) _, blk_put h.v 0 _ rfl, below_set h.b (by have := h.o0; have := h.o1; omega), h.o0, h.o1⟩
theorem Sa.setv1 (h : Sa w w1 bl bv A c n kd m nm) (x : Int) : Sa w (w1.setCell ⟨bv, 1, none⟩ (.int .i64 x)) bl bv A c n kd x nm :=
  ⟨blk_far h.l (by exact (by have := h.o1; omega : bl ≠ bv)) _, blk_put h.v 1 _ rfl, below_set h.b (by have := h.o0; have := h.o1; omega), h.o0, h.o1⟩
theorem Sa.setv2 (h : Sa w w1 bl bv A c n kd m nm) (x : ByteArray) : Sa w (w1.setCell ⟨bv, 2, none⟩ (.string x)) bl bv A c n kd m x :=
  ⟨blk_far h.l (by exact (by have := h.o1; omega : bl ≠ bv)) _, blk_put h.v 2 _ rfl, below_set h.b (by have := h.o0; have := h.o1; omega), h.o0, h.o1⟩
theorem Sa.cl (h : Sa w w1 bl bv A c n kd m nm) : w1.cell? ⟨bl, 0, none⟩ = some (.slice A n c) := (blk_cell h.l 0).trans rfl
theorem Sa.c0 (h : Sa w w1 bl bv A c n kd m nm) : w1.cell? ⟨bv, 0, none⟩ = some (.int .i64 kd) := (blk_cell h.v 0).trans rfl
theorem Sa.c1 (h : Sa w w1 bl bv A c n kd m nm) : w1.cell? ⟨bv, 1, none⟩ = some (.int .i64 m) := (blk_cell h.v 1).trans rfl
theorem Sa.c2 (h : Sa w w1 bl bv A c n kd m nm) : w1.cell? ⟨bv, 2, none⟩ = some (.string nm) := (blk_cell h.v 2).trans rfl
theorem Sa.f (h : Sa w w1 bl bv A c n kd m nm) : w1.frozen? ⟨bv, 0, none⟩ = false ∧ w1.frozen? ⟨bv, 1, none⟩ = false ∧ w1.frozen? ⟨bv, 2, none⟩ = false := ⟨blk_frozen h.v 0, blk_frozen h.v 1, blk_frozen h.v 2⟩
theorem Sa.ne (h : Sa w w1 bl bv A c n kd m nm) : bl ≠ bv ∧ bv ≠ bl := by have := h.o1; omega
theorem Sa.C (h : Sa w w1 bl bv A c n kd m nm) {α : Type} {d : Kd α} {l : List α} (hr : Kd.C d w A n l) : Kd.C d w1 A n l := Kd.C_below hr h.b
theorem Sa.st (h : Sa w w1 bl bv A c n kd m nm) {T : TypeId} (hT : T = 3) (hg : bk = w1.heap.size) (hx : w2.heap[bk]? = some (.cells #[.int .i64 k] T (0, 0))) (hb : Below w1.heap.size w1 w2) : St w w2 bl bv bk A c n kd m nm k := by
  subst hT
  exact ⟨blk_below h.l hb, blk_below h.v hb, hx, below_step h.b hb, h.o0, h.o1, by rw [hg]; exact blk_lt h.v⟩
end
theorem san_ {P : Prop} (h : P := by repeat (first | (with_reducible first | exact HX.out | apply Sa.drewN | apply Sa.drew | apply Sa.setv0 | apply Sa.setv1 | apply Sa.setv2))) : P := h
theorem stn_ {P : Prop} (h : P := by repeat (first | (with_reducible first | exact HX.out | apply St.drewN | apply St.drew | apply St.setk | apply St.setv0 | apply St.setv1 | apply St.setv2))) : P := h
theorem at_ {P : Program} {id : Nat} {ops : Array Oper} {b : Bool} {Q : Exit → Act → World → Prop} {a : Act} {W : World} (h : ∀ w', w' = W → (Code.region id ops b).wp P Q a w') : (Code.region id ops b).wp P Q a W := h W rfl
def Read.T22 : Bool × List (List Nat × List Nat) := (true, [([], []), ([], []), ([0, 0], [0]), ([1, 2, 0, 1, 2], [1]), ([3, 0, 1, 2, 3], [])])
def Read.B22 : List Nat := [0, 0, 1, 7, 15]
theorem Read.tab22 : rtab .any (opsOf Tryd.f23 22) = Read.T22 := by kernel_rfl
theorem Read.bits22 : waitsOk Read.T22.2 Read.B22 = true := by kernel_rfl
def Read.T27 : Bool × List (List Nat × List Nat) := (true, [([], []), ([], []), ([0, 0], [0]), ([1, 2, 0, 1, 2], [1]), ([3, 0, 1, 2, 3], [])])
def Read.B27 : List Nat := [0, 0, 1, 7, 15]
theorem Read.tab27 : rtab .any (opsOf Tryd.f23 27) = Read.T27 := by kernel_rfl
theorem Read.bits27 : waitsOk Read.T27.2 Read.B27 = true := by kernel_rfl
def Read.T36 : Bool × List (List Nat × List Nat) := (true, [([], []), ([], []), ([0, 0], [0]), ([1, 2, 0, 1, 2], [1]), ([3, 0, 1, 2, 3], [])])
def Read.B36 : List Nat := [0, 0, 1, 7, 15]
theorem Read.tab36 : rtab .any (opsOf Tryd.f23 36) = Read.T36 := by kernel_rfl
theorem Read.bits36 : waitsOk Read.T36.2 Read.B36 = true := by kernel_rfl
set_option maxHeartbeats 16000000 in
set_option maxRecDepth 100000 in
theorem calls (k : Nat) (A0 : Option Addr) (c0 : Nat) (l0 : List S67) (a1 r1 r2 : Int) (r3 : ByteArray) (r4 r5 : Int) (w : World) (hr0 : Kd.C k67 w A0 l0.length l0) (hc0 : l0.length ≤ c0) (h : line_Read.f k l0 a1 = some (r1, r2, r3, r4, r5)) :
    Calls Tryd.prog 23 #[.slice A0 l0.length c0, .int .i64 a1] w fun e w' => e = .returned (.tuple #[.agg #[.int .i64 r1, .int .i64 r2, .string r3], .int .i64 r4, .int .i64 r5]) ∧ Below w.heap.size w w' := by
  have hu := Tryd.underlying67
  have hu2 := Tryd.underlying41
  have HR := Aside0.mk hr0
  have HC := Aside0.mk hc0
  have HB := Aside0.mk (Below.refl w.heap.size w)
  unfold line_Read.f at h
  obtain ⟨ys, hys⟩ : ∃ ys, line_Read.keys = ys := ⟨_, rfl⟩
  rw [hys] at h
  have NY := Aside0.mk hys
  replace h := Option.bind_eq_some_iff.mp h
  obtain ⟨⟨t1, t2⟩, hk, h⟩ := h
  have A1 := Aside0.mk hk
  clear hys hk hr0 hc0
  dsimp only at h
  by_cases e0 : t1 = 0
  · rw [if_pos e0] at h
    replace h := Option.bind_eq_some_iff.mp h
    obtain ⟨⟨u1, u2, u3⟩, hau, h⟩ := h
    have A2 := Aside0.mk hau
    simp only [Option.some.injEq, Prod.mk.injEq] at h
    obtain ⟨rfl, rfl, rfl, rfl, rfl⟩ := h
    have q0 : (t1 == 0) = true := by rw [e0]; rfl
    clear e0 hau
    go_enter Tryd.func23, Tryd.ntmps23
    go_wp2_with (first | go_step3 | ((with_reducible refine gate_dst (N := 2) rfl ?_); refine box_event ?hg (N := 2) ?hd (cs := #[.slice A0 l0.length c0]) (t := 35) ?hr ?_; (case hd => rfl); (case hg => rfl); (case hr => first | (go_simp; done) | (go_simp; rfl)); intro bl hg w2 hbox hb; have n0_ := Aside0.mk (below_step bel_ hb); have BL := Aside0.mk hbox; have OL := Aside0.mk ((bsz_ hg : w.heap.size ≤ bl)); clear HB; have HB := n0_; clear n0_ hb hbox hg) | ((with_reducible refine gate_dst (N := 4) rfl ?_); refine box_event ?hg (N := 4) ?hd (cs := #[.int .i64 0, .int .i64 0, .string (⟨#[]⟩ : ByteArray)]) (t := 41) ?hr ?_; (case hd => rfl); (case hg => rfl); (case hr => first | (go_simp; done) | (go_simp; rfl)); intro bv hg w3 hbox hb; have HX : Aside0 (Sa w w3 bl bv A0 c0 l0.length 0 0 ⟨#[]⟩) := ⟨⟨(blb_ BL hb).out, hbox, below_step bel_ hb, OL.out, blt_ BL hg⟩⟩; clear HB BL OL hb hbox hg; have hcl := HX.out.cl; have hc0 := HX.out.c0; have hc1 := HX.out.c1; have hc2 := HX.out.c2; obtain ⟨hz0, hz1, hz2⟩ := HX.out.f; obtain ⟨hn0, hn1⟩ := HX.out.ne) | ((with_reducible refine gate_dst (N := 21) rfl ?_); refine Kd.R_lit Kd.string _ 9 ?hg (N := 21) ?hd (xs := line_Read.keys) (inner := [.string (⟨#[97, 117, 116, 111]⟩ : ByteArray), .string (⟨#[105, 110, 104, 101, 114, 105, 116]⟩ : ByteArray), .string (⟨#[105, 110, 105, 116, 105, 97, 108]⟩ : ByteArray), .string (⟨#[117, 110, 115, 101, 116]⟩ : ByteArray), .string (⟨#[114, 101, 118, 101, 114, 116]⟩ : ByteArray)]) (ok := fun _ => True) (okp := fun _ => True) ?hr ?hp (fun _ hk => hk) trivial (Below.refl _ _) (Nat.le_refl _) (by unfold line_Read.keys; simp) ?_; (case hd => rfl); (case hg => rfl); (case hr => first | (go_simp; done) | (go_simp; rfl)); (case hp => exact (Reps.one (show Kd.M Kd.string _ _ _ (⟨#[97, 117, 116, 111]⟩ : ByteArray) [.string (⟨#[97, 117, 116, 111]⟩ : ByteArray)] from rfl) (Reps.one (show Kd.M Kd.string _ _ _ (⟨#[105, 110, 104, 101, 114, 105, 116]⟩ : ByteArray) [.string (⟨#[105, 110, 104, 101, 114, 105, 116]⟩ : ByteArray)] from rfl) (Reps.one (show Kd.M Kd.string _ _ _ (⟨#[105, 110, 105, 116, 105, 97, 108]⟩ : ByteArray) [.string (⟨#[105, 110, 105, 116, 105, 97, 108]⟩ : ByteArray)] from rfl) (Reps.one (show Kd.M Kd.string _ _ _ (⟨#[117, 110, 115, 101, 116]⟩ : ByteArray) [.string (⟨#[117, 110, 115, 101, 116]⟩ : ByteArray)] from rfl) (Reps.one (show Kd.M Kd.string _ _ _ (⟨#[114, 101, 118, 101, 114, 116]⟩ : ByteArray) [.string (⟨#[114, 101, 118, 101, 114, 116]⟩ : ByteArray)] from rfl) (Reps.none _ _))))))); intro v9 w9 ho10 hb hg_ hnew_; clear hg_ hnew_; rw [NY.out] at ho10; have HO := Aside0.mk ho10; have n0_ := Aside0.mk (Sa.below (san_ : Sa w _ bl bv A0 c0 l0.length _ _ _) hb); clear HX; have HX := n0_; clear n0_ hb ho10; obtain ⟨Ao, co, eo⟩ := Kd.R_slice HO.out; subst eo) | ((with_reducible refine gate_callee (f := 37) rfl ?_); refine goesL_ (some 22) rfl rfl Tryd.func37 (by kernel_rfl) rfl #[.slice A0 l0.length c0, .int .i64 a1, .slice Ao ys.length co] rfl goa_ ?_; (with_reducible refine (value_Keyword.calls k _ _ l0 a1 _ _ ys t1 t2 _ ?side1 ?side2 ?side3 ?side4 A1.out).mono ?_); (case side1 => exact Sa.C (san_ : Sa w _ bl bv A0 c0 l0.length _ _ _) HR.out); (case side2 => exact HC.out); (case side3 => repeat (first | exact (Kd.R_reads' HO.out).2.2 | (with_reducible refine Kd.C_alloc ?_ _) | (with_reducible refine Kd.C_drewN ?_ _) | (with_reducible refine Kd.C_drew ?_))); (case side4 => exact (Kd.R_reads' HO.out).2.1); rintro e w12 ⟨rfl, hb⟩; refine ⟨_, rfl, ?_⟩; have n0_ := Aside0.mk (Sa.below (san_ : Sa w _ bl bv A0 c0 l0.length _ _ _) hb); clear HX HO; have HX := n0_; clear n0_ hb; have hcl := HX.out.cl; have hc0 := HX.out.c0; have hc1 := HX.out.c1; have hc2 := HX.out.c2; obtain ⟨hz0, hz1, hz2⟩ := HX.out.f; obtain ⟨hn0, hn1⟩ := HX.out.ne) | (go_at_call 41; with_reducible refine (line_auto.calls u1 u2 u3 _ A2.out).mono ?_; rintro e w13 ⟨rfl, hb⟩; have n0_ := Aside0.mk (Sa.below (san_ : Sa w _ bl bv A0 c0 l0.length _ _ _) hb); clear HX; have HX := n0_; clear n0_ hb; have hcl := HX.out.cl; have hc0 := HX.out.c0; have hc1 := HX.out.c1; have hc2 := HX.out.c2; obtain ⟨hz0, hz1, hz2⟩ := HX.out.f; obtain ⟨hn0, hn1⟩ := HX.out.ne))
    (try (rw [Exit.noGoto_ret]; try dsimp only [Exit.inBlock, Exit.then]))
    refine bodyPost_ret (results_ctt rfl _ _ bv 41 #[.int .i64 u1, .int .i64 u2, .string u3] (0, 0) _ rfl ((san_ : Sa w _ bl bv A0 c0 l0.length u1 u2 u3)).v Tryd.underlying41 rfl (by kernel_rfl)) rfl ?_
    exact ⟨rsl_, ((san_ : Sa w _ bl bv A0 c0 l0.length u1 u2 u3)).b⟩
  · rw [if_neg e0] at h
    have q0 : (t1 == 0) = false := beq_eq_false_iff_ne.2 e0
    clear e0
    by_cases e1 : t1 > 0
    · rw [if_pos e1] at h
      have q1 : decide (0 < t1) = true := decide_eq_true e1
      simp only [Option.some.injEq, Prod.mk.injEq] at h
      obtain ⟨rfl, rfl, rfl, rfl, rfl⟩ := h
      clear e1
      go_enter Tryd.func23, Tryd.ntmps23
      go_wp2_with (first | go_step3 | ((with_reducible refine gate_dst (N := 2) rfl ?_); refine box_event ?hg (N := 2) ?hd (cs := #[.slice A0 l0.length c0]) (t := 35) ?hr ?_; (case hd => rfl); (case hg => rfl); (case hr => first | (go_simp; done) | (go_simp; rfl)); intro bl hg w2 hbox hb; have n0_ := Aside0.mk (below_step bel_ hb); have BL := Aside0.mk hbox; have OL := Aside0.mk ((bsz_ hg : w.heap.size ≤ bl)); clear HB; have HB := n0_; clear n0_ hb hbox hg) | ((with_reducible refine gate_dst (N := 4) rfl ?_); refine box_event ?hg (N := 4) ?hd (cs := #[.int .i64 0, .int .i64 0, .string (⟨#[]⟩ : ByteArray)]) (t := 41) ?hr ?_; (case hd => rfl); (case hg => rfl); (case hr => first | (go_simp; done) | (go_simp; rfl)); intro bv hg w3 hbox hb; have HX : Aside0 (Sa w w3 bl bv A0 c0 l0.length 0 0 ⟨#[]⟩) := ⟨⟨(blb_ BL hb).out, hbox, below_step bel_ hb, OL.out, blt_ BL hg⟩⟩; clear HB BL OL hb hbox hg; have hcl := HX.out.cl; have hc0 := HX.out.c0; have hc1 := HX.out.c1; have hc2 := HX.out.c2; obtain ⟨hz0, hz1, hz2⟩ := HX.out.f; obtain ⟨hn0, hn1⟩ := HX.out.ne) | ((with_reducible refine gate_dst (N := 21) rfl ?_); refine Kd.R_lit Kd.string _ 9 ?hg (N := 21) ?hd (xs := line_Read.keys) (inner := [.string (⟨#[97, 117, 116, 111]⟩ : ByteArray), .string (⟨#[105, 110, 104, 101, 114, 105, 116]⟩ : ByteArray), .string (⟨#[105, 110, 105, 116, 105, 97, 108]⟩ : ByteArray), .string (⟨#[117, 110, 115, 101, 116]⟩ : ByteArray), .string (⟨#[114, 101, 118, 101, 114, 116]⟩ : ByteArray)]) (ok := fun _ => True) (okp := fun _ => True) ?hr ?hp (fun _ hk => hk) trivial (Below.refl _ _) (Nat.le_refl _) (by unfold line_Read.keys; simp) ?_; (case hd => rfl); (case hg => rfl); (case hr => first | (go_simp; done) | (go_simp; rfl)); (case hp => exact (Reps.one (show Kd.M Kd.string _ _ _ (⟨#[97, 117, 116, 111]⟩ : ByteArray) [.string (⟨#[97, 117, 116, 111]⟩ : ByteArray)] from rfl) (Reps.one (show Kd.M Kd.string _ _ _ (⟨#[105, 110, 104, 101, 114, 105, 116]⟩ : ByteArray) [.string (⟨#[105, 110, 104, 101, 114, 105, 116]⟩ : ByteArray)] from rfl) (Reps.one (show Kd.M Kd.string _ _ _ (⟨#[105, 110, 105, 116, 105, 97, 108]⟩ : ByteArray) [.string (⟨#[105, 110, 105, 116, 105, 97, 108]⟩ : ByteArray)] from rfl) (Reps.one (show Kd.M Kd.string _ _ _ (⟨#[117, 110, 115, 101, 116]⟩ : ByteArray) [.string (⟨#[117, 110, 115, 101, 116]⟩ : ByteArray)] from rfl) (Reps.one (show Kd.M Kd.string _ _ _ (⟨#[114, 101, 118, 101, 114, 116]⟩ : ByteArray) [.string (⟨#[114, 101, 118, 101, 114, 116]⟩ : ByteArray)] from rfl) (Reps.none _ _))))))); intro v9 w9 ho10 hb hg_ hnew_; clear hg_ hnew_; rw [NY.out] at ho10; have HO := Aside0.mk ho10; have n0_ := Aside0.mk (Sa.below (san_ : Sa w _ bl bv A0 c0 l0.length _ _ _) hb); clear HX; have HX := n0_; clear n0_ hb ho10; obtain ⟨Ao, co, eo⟩ := Kd.R_slice HO.out; subst eo) | ((with_reducible refine gate_callee (f := 37) rfl ?_); refine goesL_ (some 22) rfl rfl Tryd.func37 (by kernel_rfl) rfl #[.slice A0 l0.length c0, .int .i64 a1, .slice Ao ys.length co] rfl goa_ ?_; (with_reducible refine (value_Keyword.calls k _ _ l0 a1 _ _ ys t1 t2 _ ?side1 ?side2 ?side3 ?side4 A1.out).mono ?_); (case side1 => exact Sa.C (san_ : Sa w _ bl bv A0 c0 l0.length _ _ _) HR.out); (case side2 => exact HC.out); (case side3 => repeat (first | exact (Kd.R_reads' HO.out).2.2 | (with_reducible refine Kd.C_alloc ?_ _) | (with_reducible refine Kd.C_drewN ?_ _) | (with_reducible refine Kd.C_drew ?_))); (case side4 => exact (Kd.R_reads' HO.out).2.1); rintro e w12 ⟨rfl, hb⟩; refine ⟨_, rfl, ?_⟩; have n0_ := Aside0.mk (Sa.below (san_ : Sa w _ bl bv A0 c0 l0.length _ _ _) hb); clear HX HO; have HX := n0_; clear n0_ hb; have hcl := HX.out.cl; have hc0 := HX.out.c0; have hc1 := HX.out.c1; have hc2 := HX.out.c2; obtain ⟨hz0, hz1, hz2⟩ := HX.out.f; obtain ⟨hn0, hn1⟩ := HX.out.ne))
      (try (rw [Exit.noGoto_ret]; try dsimp only [Exit.inBlock, Exit.then]))
      refine bodyPost_ret (results_ctt rfl _ _ bv 41 #[.int .i64 0, .int .i64 0, .string (⟨#[]⟩ : ByteArray)] (0, 0) _ rfl ((san_ : Sa w _ bl bv A0 c0 l0.length 0 0 ⟨#[]⟩)).v Tryd.underlying41 rfl (by kernel_rfl)) rfl ?_
      exact ⟨rsl_, ((san_ : Sa w _ bl bv A0 c0 l0.length 0 0 ⟨#[]⟩)).b⟩
    · rw [if_neg e1] at h
      have q1 : decide (0 < t1) = false := decide_eq_false e1
      clear e1
      replace h := Option.bind_eq_some_iff.mp h
      obtain ⟨⟨nu, sp, kk, nm⟩, hl, h⟩ := h
      have HL := Aside0.mk hl
      have HF := Aside0.mk h
      clear hl h
      dsimp only at HF
      go_enter Tryd.func23, Tryd.ntmps23
      go_upto_block 1 with (first | go_step3 | ((with_reducible refine gate_dst (N := 2) rfl ?_); refine box_event ?hg (N := 2) ?hd (cs := #[.slice A0 l0.length c0]) (t := 35) ?hr ?_; (case hd => rfl); (case hg => rfl); (case hr => first | (go_simp; done) | (go_simp; rfl)); intro bl hg w2 hbox hb; have n0_ := Aside0.mk (below_step bel_ hb); have BL := Aside0.mk hbox; have OL := Aside0.mk ((bsz_ hg : w.heap.size ≤ bl)); clear HB; have HB := n0_; clear n0_ hb hbox hg) | ((with_reducible refine gate_dst (N := 4) rfl ?_); refine box_event ?hg (N := 4) ?hd (cs := #[.int .i64 0, .int .i64 0, .string (⟨#[]⟩ : ByteArray)]) (t := 41) ?hr ?_; (case hd => rfl); (case hg => rfl); (case hr => first | (go_simp; done) | (go_simp; rfl)); intro bv hg w3 hbox hb; have HX : Aside0 (Sa w w3 bl bv A0 c0 l0.length 0 0 ⟨#[]⟩) := ⟨⟨(blb_ BL hb).out, hbox, below_step bel_ hb, OL.out, blt_ BL hg⟩⟩; clear HB BL OL hb hbox hg; have hcl := HX.out.cl; have hc0 := HX.out.c0; have hc1 := HX.out.c1; have hc2 := HX.out.c2; obtain ⟨hz0, hz1, hz2⟩ := HX.out.f; obtain ⟨hn0, hn1⟩ := HX.out.ne) | ((with_reducible refine gate_dst (N := 21) rfl ?_); refine Kd.R_lit Kd.string _ 9 ?hg (N := 21) ?hd (xs := line_Read.keys) (inner := [.string (⟨#[97, 117, 116, 111]⟩ : ByteArray), .string (⟨#[105, 110, 104, 101, 114, 105, 116]⟩ : ByteArray), .string (⟨#[105, 110, 105, 116, 105, 97, 108]⟩ : ByteArray), .string (⟨#[117, 110, 115, 101, 116]⟩ : ByteArray), .string (⟨#[114, 101, 118, 101, 114, 116]⟩ : ByteArray)]) (ok := fun _ => True) (okp := fun _ => True) ?hr ?hp (fun _ hk => hk) trivial (Below.refl _ _) (Nat.le_refl _) (by unfold line_Read.keys; simp) ?_; (case hd => rfl); (case hg => rfl); (case hr => first | (go_simp; done) | (go_simp; rfl)); (case hp => exact (Reps.one (show Kd.M Kd.string _ _ _ (⟨#[97, 117, 116, 111]⟩ : ByteArray) [.string (⟨#[97, 117, 116, 111]⟩ : ByteArray)] from rfl) (Reps.one (show Kd.M Kd.string _ _ _ (⟨#[105, 110, 104, 101, 114, 105, 116]⟩ : ByteArray) [.string (⟨#[105, 110, 104, 101, 114, 105, 116]⟩ : ByteArray)] from rfl) (Reps.one (show Kd.M Kd.string _ _ _ (⟨#[105, 110, 105, 116, 105, 97, 108]⟩ : ByteArray) [.string (⟨#[105, 110, 105, 116, 105, 97, 108]⟩ : ByteArray)] from rfl) (Reps.one (show Kd.M Kd.string _ _ _ (⟨#[117, 110, 115, 101, 116]⟩ : ByteArray) [.string (⟨#[117, 110, 115, 101, 116]⟩ : ByteArray)] from rfl) (Reps.one (show Kd.M Kd.string _ _ _ (⟨#[114, 101, 118, 101, 114, 116]⟩ : ByteArray) [.string (⟨#[114, 101, 118, 101, 114, 116]⟩ : ByteArray)] from rfl) (Reps.none _ _))))))); intro v9 w9 ho10 hb hg_ hnew_; clear hg_ hnew_; rw [NY.out] at ho10; have HO := Aside0.mk ho10; have n0_ := Aside0.mk (Sa.below (san_ : Sa w _ bl bv A0 c0 l0.length _ _ _) hb); clear HX; have HX := n0_; clear n0_ hb ho10; obtain ⟨Ao, co, eo⟩ := Kd.R_slice HO.out; subst eo) | ((with_reducible refine gate_callee (f := 37) rfl ?_); refine goesL_ (some 22) rfl rfl Tryd.func37 (by kernel_rfl) rfl #[.slice A0 l0.length c0, .int .i64 a1, .slice Ao ys.length co] rfl goa_ ?_; (with_reducible refine (value_Keyword.calls k _ _ l0 a1 _ _ ys t1 t2 _ ?side1 ?side2 ?side3 ?side4 A1.out).mono ?_); (case side1 => exact Sa.C (san_ : Sa w _ bl bv A0 c0 l0.length _ _ _) HR.out); (case side2 => exact HC.out); (case side3 => repeat (first | exact (Kd.R_reads' HO.out).2.2 | (with_reducible refine Kd.C_alloc ?_ _) | (with_reducible refine Kd.C_drewN ?_ _) | (with_reducible refine Kd.C_drew ?_))); (case side4 => exact (Kd.R_reads' HO.out).2.1); rintro e w12 ⟨rfl, hb⟩; refine ⟨_, rfl, ?_⟩; have n0_ := Aside0.mk (Sa.below (san_ : Sa w _ bl bv A0 c0 l0.length _ _ _) hb); clear HX HO; have HX := n0_; clear n0_ hb; have hcl := HX.out.cl; have hc0 := HX.out.c0; have hc1 := HX.out.c1; have hc2 := HX.out.c2; obtain ⟨hz0, hz1, hz2⟩ := HX.out.f; obtain ⟨hn0, hn1⟩ := HX.out.ne) | ((with_reducible refine gate_dst (N := 11) rfl ?_); refine box_event ?hg (N := 11) ?hd (cs := #[.int .i64 0]) (t := 3) ?hr ?_; (case hd => rfl); (case hg => rfl); (case hr => first | (go_simp; done) | (go_simp; rfl)); intro bk hg w14 hbox hb; have n0_ := Aside0.mk (Sa.st (k := 0) (san_ : Sa w _ bl bv A0 c0 l0.length _ _ _) rfl hg hbox hb); clear HX; have HX := n0_; clear n0_ hb hbox hg; have hcl := HX.out.cl; have hc0 := HX.out.c0; have hc1 := HX.out.c1; have hc2 := HX.out.c2; have hck := HX.out.ck; obtain ⟨hz0, hz1, hz2, hzk⟩ := HX.out.f; obtain ⟨hn0, hn1, hn2, hn3, hn4, hn5⟩ := HX.out.ne))
      go_cut [9, 10] (fun v9 v10 wc => v9 = .int .i64 nu ∧ v10 = .int .i64 sp ∧ Aside0 (St w wc bl bv bk A0 c0 l0.length 0 0 nm kk))
      case first =>
        clear HF
        go_wp2_with (first | go_step3)
        go_loopg [9, 10] k (fun kq v9 v10 wr => ∃ (nu1 sp1 k1 : Int) (nm1 : ByteArray), v9 = .int .i64 nu1 ∧ v10 = .int .i64 sp1 ∧ Aside0 (line_Read.l0 kq l0 a1 nu1 sp1 k1 nm1 = some (nu, sp, kk, nm)) ∧ Aside0 (St w wr bl bv bk A0 c0 l0.length 0 0 nm1 k1))
        case atStart => exact ⟨-1, -1, a1, ⟨#[]⟩, rfl, rfl, HL, ⟨(stn_ : St w _ bl bv bk A0 c0 l0.length _ _ _ _)⟩⟩
        case round =>
          clear HX hcl hc0 hc1 hc2 hck hz0 hz1 hz2 hzk HL
          obtain ⟨nu1, sp1, k1, nm1, rfl, rfl, HL, HX⟩ := hrel
          have hcl := HX.out.cl
          have hc0 := HX.out.c0
          have hc1 := HX.out.c1
          have hc2 := HX.out.c2
          have hck := HX.out.ck
          obtain ⟨hz0, hz1, hz2, hzk⟩ := HX.out.f
          cases gk with
          | zero => exact absurd HL.out (by simp [line_Read.l0])
          | succ kq =>
            have hl := l0_step HL.out
            clear HL
            rcases hl with ⟨qn, AN, HL⟩ | ⟨⟨qn, AN⟩ | qn, ⟨AS, qs, qk, hR⟩ | ⟨AS, qs, qk, HL⟩ | ⟨⟨AS, qs⟩ | AS, ⟨qm, AC, HL⟩ | ⟨qm, AC, hR⟩ | ⟨qm, hR⟩⟩⟩
            all_goals try (simp only [Prod.mk.injEq] at hR; obtain ⟨rfl, rfl, rfl, rfl⟩ := hR)
            all_goals (go_wp2_with (first | go_step3 | (go_at_call 44; with_reducible refine (text_calls bk bl A0 c0 l0 k1 _ ?g1 ?g2 ?g3 HC.out).mono ?_; (case g1 => exact St.ck (stn_ : St w _ bl bv bk A0 c0 l0.length _ _ _ _)); (case g2 => exact St.cl (stn_ : St w _ bl bv bk A0 c0 l0.length _ _ _ _)); (case g3 => exact St.C (stn_ : St w _ bl bv bk A0 c0 l0.length _ _ _ _) HR.out); rintro e w5 ⟨rfl, ⟨nd, rfl⟩⟩) | (go_at_call 45; with_reducible refine (num_calls kq bl bk A0 c0 l0 k1 _ _ ?g1 ?g2 ?g3 HC.out AN.out).mono ?_; (case g1 => exact St.cl (stn_ : St w _ bl bv bk A0 c0 l0.length _ _ _ _)); (case g2 => exact St.ck (stn_ : St w _ bl bv bk A0 c0 l0.length _ _ _ _)); (case g3 => exact St.C (stn_ : St w _ bl bv bk A0 c0 l0.length _ _ _ _) HR.out); rintro e w6 ⟨rfl, hb⟩; have n0_ := Aside0.mk (St.below (stn_ : St w _ bl bv bk A0 c0 l0.length _ _ _ _) hb); clear HX; have HX := n0_; clear n0_ hb; have hcl := HX.out.cl; have hc0 := HX.out.c0; have hc1 := HX.out.c1; have hc2 := HX.out.c2; have hck := HX.out.ck; obtain ⟨hz0, hz1, hz2, hzk⟩ := HX.out.f; obtain ⟨hn0, hn1, hn2, hn3, hn4, hn5⟩ := HX.out.ne) | (go_at_call 47; with_reducible refine (ident_Is.calls _ _ _ _ AS.out).mono ?_; rintro e w7 ⟨rfl, hb⟩; have n0_ := Aside0.mk (St.below (stn_ : St w _ bl bv bk A0 c0 l0.length _ _ _ _) hb); clear HX; have HX := n0_; clear n0_ hb; have hcl := HX.out.cl; have hc0 := HX.out.c0; have hc1 := HX.out.c1; have hc2 := HX.out.c2; have hck := HX.out.ck; obtain ⟨hz0, hz1, hz2, hzk⟩ := HX.out.f; obtain ⟨hn0, hn1, hn2, hn3, hn4, hn5⟩ := HX.out.ne) | (go_at_call 40; with_reducible refine (ident_Custom.calls _ _ _ AC.out).mono ?_; rintro e w8 ⟨rfl, hb⟩; have n0_ := Aside0.mk (St.below (stn_ : St w _ bl bv bk A0 c0 l0.length _ _ _ _) hb); clear HX; have HX := n0_; clear n0_ hb; have hcl := HX.out.cl; have hc0 := HX.out.c0; have hc1 := HX.out.c1; have hc2 := HX.out.c2; have hck := HX.out.ck; obtain ⟨hz0, hz1, hz2, hzk⟩ := HX.out.f; obtain ⟨hn0, hn1, hn2, hn3, hn4, hn5⟩ := HX.out.ne)))
            all_goals (first | (go_roundg kq; (case measure => omega); (case rel => exact ⟨_, _, _, _, rfl, rfl, HL, ⟨(stn_ : St w _ bl bv bk A0 c0 l0.length _ _ _ _)⟩⟩)) | (go_meet; case rel => exact ⟨rfl, rfl, ⟨(stn_ : St w _ bl bv bk A0 c0 l0.length _ _ _ _)⟩⟩))
      case rest =>
        obtain ⟨rfl, rfl, HX⟩ := hcut
        have hcl := HX.out.cl
        have hc0 := HX.out.c0
        have hc1 := HX.out.c1
        have hc2 := HX.out.c2
        have hck := HX.out.ck
        obtain ⟨hz0, hz1, hz2, hzk⟩ := HX.out.f
        have h := HF.out
        clear HF HL
        unfold line_Read.fin at h
        by_cases e1 : kk = a1
        · have e1q : (kk == a1) = true := beq_iff_eq.2 e1
          rw [if_pos e1] at h
          simp only [Option.some.injEq, Prod.mk.injEq] at h
          obtain ⟨rfl, rfl, rfl, rfl, rfl⟩ := h
          go_wp2_with (first | go_step3 | (go_at_call 46; with_reducible refine (value_Integer.calls k _ _ l0 nu r1 r2 r3 _ ?g1 HC.out AI.out).mono ?_; (case g1 => exact St.C (stn_ : St w _ bl bv bk A0 c0 l0.length _ _ _ _) HR.out); rintro e w9 ⟨rfl, hb⟩; have n0_ := Aside0.mk (St.below (stn_ : St w _ bl bv bk A0 c0 l0.length _ _ _ _) hb); clear HX; have HX := n0_; clear n0_ hb; have hcl := HX.out.cl; have hc0 := HX.out.c0; have hc1 := HX.out.c1; have hc2 := HX.out.c2; have hck := HX.out.ck; obtain ⟨hz0, hz1, hz2, hzk⟩ := HX.out.f; obtain ⟨hn0, hn1, hn2, hn3, hn4, hn5⟩ := HX.out.ne))
          (try (rw [Exit.noGoto_ret]; try dsimp only [Exit.inBlock, Exit.then]))
          refine bodyPost_ret (results_ctt rfl _ _ bv 41 #[.int .i64 0, .int .i64 0, .string nm] (0, 0) _ rfl ((stn_ : St w _ bl bv bk A0 c0 l0.length 0 0 nm _)).v Tryd.underlying41 rfl (by kernel_rfl)) rfl ?_
          exact ⟨rsl_, ((stn_ : St w _ bl bv bk A0 c0 l0.length 0 0 nm _)).b⟩
        · have e1q : (kk == a1) = false := beq_eq_false_iff_ne.2 e1
          rw [if_neg e1] at h
          by_cases e2 : sp ≥ 0
          · have e2q : decide (0 ≤ sp) = true := decide_eq_true e2
            by_cases e3 : nu < 0
            · have e3q : decide (nu < 0) = true := decide_eq_true e3
              by_cases e4 : nm.toList = []
              · have e4q : (nm.toList == ([] : List UInt8)) = true := beq_iff_eq.mpr e4
                rw [if_pos ⟨e2, e3, e4⟩] at h
                simp only [Option.some.injEq, Prod.mk.injEq] at h
                obtain ⟨rfl, rfl, rfl, rfl, rfl⟩ := h
                go_wp2_with (first | go_step3 | (go_at_call 46; with_reducible refine (value_Integer.calls k _ _ l0 nu r1 r2 r3 _ ?g1 HC.out AI.out).mono ?_; (case g1 => exact St.C (stn_ : St w _ bl bv bk A0 c0 l0.length _ _ _ _) HR.out); rintro e w9 ⟨rfl, hb⟩; have n0_ := Aside0.mk (St.below (stn_ : St w _ bl bv bk A0 c0 l0.length _ _ _ _) hb); clear HX; have HX := n0_; clear n0_ hb; have hcl := HX.out.cl; have hc0 := HX.out.c0; have hc1 := HX.out.c1; have hc2 := HX.out.c2; have hck := HX.out.ck; obtain ⟨hz0, hz1, hz2, hzk⟩ := HX.out.f; obtain ⟨hn0, hn1, hn2, hn3, hn4, hn5⟩ := HX.out.ne))
                refine at_ (fun w4 hw4 => ?_)
                have HX4 : Aside0 (St w w4.drew bl bv bk A0 c0 l0.length 0 0 nm kk) := ⟨St.drew (by rw [hw4]; exact stn_)⟩
                clear hw4 HX hcl hc0 hc1 hc2 hck hz0 hz1 hz2 hzk
                refine start_ (n := 5) (S := (fun w' => w'.cell? ⟨bv, 0, none⟩ = some (.int .i64 0) ∧ w'.cell? ⟨bv, 1, none⟩ = some (.int .i64 0) ∧ w'.cell? ⟨bv, 2, none⟩ = some (.string nm) ∧ w'.cell? ⟨bk, 0, none⟩ = some (.int .i64 kk))) (ds := []) #[false, false, false, false, false] (by kernel_rfl) rfl rfl ⟨HX4.out.c0, HX4.out.c1, HX4.out.c2, HX4.out.ck⟩ (fun hHeld => ?_)
                refine with_tabW Read.tab22 Read.bits22 (fun HT_ HW_ => ?_)
                generalize w4.drew = w5 at HX4 hHeld ⊢
                obtain ⟨hz0, hz1, hz2, hzk⟩ := HX4.out.f
                refine tas_ 0 (some 91) #[true, false, false, false, false] rfl rfl HT_.out HW_.out hHeld ?_
                refine tas_ 1 (some 92) #[true, true, false, false, false] rfl rfl HT_.out HW_.out hHeld ?_
                have hc0 := HX4.out.c0
                have hc1 := HX4.out.c1
                have hc2 := HX4.out.c2
                have HX6 := Aside0.mk (((HX4.out.setv0 0).setv1 0).setv2 nm)
                refine one_ (i := 2) (N := none) #[true, true, true, false, false] rfl rfl (one_of HT_.out (by kernel_rfl)) (by decide) (fun K hK => ?_)
                refine skip_ (w1 := ?_) (by rfl) rfl ?_ ?_
                rotate_left
                ·go_simp
                 rfl
                refine hK.out _ _ ⟨HX6.out.c0, HX6.out.c1, HX6.out.c2, HX6.out.ck⟩ (fun hHeld => ?_)
                clear hK K
                refine pus_ 3 (some 5) #[true, true, true, true, false] rfl rfl HT_.out ?_
                refine pus_ 4 (some 6) #[true, true, true, true, true] rfl rfl HT_.out ?_
                refine done_ (done_of HT_.out (by kernel_rfl)) ?_
                go_wp2
                (try (rw [Exit.noGoto_ret]; try dsimp only [Exit.inBlock, Exit.then]))
                refine bodyPost_ret (results_ctt rfl _ _ bv 41 #[.int .i64 0, .int .i64 0, .string nm] (0, 0) _ rfl HX6.out.v Tryd.underlying41 rfl (by kernel_rfl)) rfl ?_
                exact ⟨rsl_, HX6.out.b⟩
              · have e4q : (nm.toList == ([] : List UInt8)) = false := beq_eq_false_iff_ne.mpr e4
                rw [if_neg (fun z => e4 z.2.2), if_pos e3, if_pos e2, if_pos e2] at h
                simp only [Option.some.injEq, Prod.mk.injEq] at h
                obtain ⟨rfl, rfl, rfl, rfl, rfl⟩ := h
                go_wp2_with (first | go_step3 | (go_at_call 46; with_reducible refine (value_Integer.calls k _ _ l0 nu r1 r2 r3 _ ?g1 HC.out AI.out).mono ?_; (case g1 => exact St.C (stn_ : St w _ bl bv bk A0 c0 l0.length _ _ _ _) HR.out); rintro e w9 ⟨rfl, hb⟩; have n0_ := Aside0.mk (St.below (stn_ : St w _ bl bv bk A0 c0 l0.length _ _ _ _) hb); clear HX; have HX := n0_; clear n0_ hb; have hcl := HX.out.cl; have hc0 := HX.out.c0; have hc1 := HX.out.c1; have hc2 := HX.out.c2; have hck := HX.out.ck; obtain ⟨hz0, hz1, hz2, hzk⟩ := HX.out.f; obtain ⟨hn0, hn1, hn2, hn3, hn4, hn5⟩ := HX.out.ne))
                refine at_ (fun w4 hw4 => ?_)
                have HX4 : Aside0 (St w w4.drew bl bv bk A0 c0 l0.length 4 1 nm kk) := ⟨St.drew (by rw [hw4]; exact stn_)⟩
                clear hw4 HX hcl hc0 hc1 hc2 hck hz0 hz1 hz2 hzk
                refine start_ (n := 5) (S := (fun w' => w'.cell? ⟨bv, 0, none⟩ = some (.int .i64 4) ∧ w'.cell? ⟨bv, 1, none⟩ = some (.int .i64 1) ∧ w'.cell? ⟨bv, 2, none⟩ = some (.string nm) ∧ w'.cell? ⟨bk, 0, none⟩ = some (.int .i64 kk))) (ds := []) #[false, false, false, false, false] (by kernel_rfl) rfl rfl ⟨HX4.out.c0, HX4.out.c1, HX4.out.c2, HX4.out.ck⟩ (fun hHeld => ?_)
                refine with_tabW Read.tab27 Read.bits27 (fun HT_ HW_ => ?_)
                generalize w4.drew = w5 at HX4 hHeld ⊢
                obtain ⟨hz0, hz1, hz2, hzk⟩ := HX4.out.f
                refine tas_ 0 (some 100) #[true, false, false, false, false] rfl rfl HT_.out HW_.out hHeld ?_
                refine tas_ 1 (some 101) #[true, true, false, false, false] rfl rfl HT_.out HW_.out hHeld ?_
                have hc0 := HX4.out.c0
                have hc1 := HX4.out.c1
                have hc2 := HX4.out.c2
                have HX6 := Aside0.mk (((HX4.out.setv0 4).setv1 1).setv2 nm)
                refine one_ (i := 2) (N := none) #[true, true, true, false, false] rfl rfl (one_of HT_.out (by kernel_rfl)) (by decide) (fun K hK => ?_)
                refine skip_ (w1 := ?_) (by rfl) rfl ?_ ?_
                rotate_left
                ·go_simp
                 rfl
                refine hK.out _ _ ⟨HX6.out.c0, HX6.out.c1, HX6.out.c2, HX6.out.ck⟩ (fun hHeld => ?_)
                clear hK K
                refine pus_ 3 (some 5) #[true, true, true, true, false] rfl rfl HT_.out ?_
                refine pus_ 4 (some 6) #[true, true, true, true, true] rfl rfl HT_.out ?_
                refine done_ (done_of HT_.out (by kernel_rfl)) ?_
                go_wp2
                (try (rw [Exit.noGoto_ret]; try dsimp only [Exit.inBlock, Exit.then]))
                refine bodyPost_ret (results_ctt rfl _ _ bv 41 #[.int .i64 4, .int .i64 1, .string nm] (0, 0) _ rfl HX6.out.v Tryd.underlying41 rfl (by kernel_rfl)) rfl ?_
                exact ⟨rsl_, HX6.out.b⟩
            · have e3q : decide (nu < 0) = false := decide_eq_false e3
              rw [if_neg (fun z => e3 z.2.1), if_neg e3] at h
              replace h := Option.bind_eq_some_iff.mp h
              obtain ⟨⟨r1, r2, r3⟩, hI, h⟩ := h
              have AI := Aside0.mk hI
              clear hI
              dsimp only at h
              have e2r : decide (sp < 0) = false := decide_eq_false (by omega)
              by_cases e5 : r3 ≠ 0
              · have e5q : (r3 != 0) = true := bne_iff_ne.2 e5
                rw [if_pos (Or.inl e5)] at h
                simp only [Option.some.injEq, Prod.mk.injEq] at h
                obtain ⟨rfl, rfl, rfl, rfl, rfl⟩ := h
                go_wp2_with (first | go_step3 | (go_at_call 46; with_reducible refine (value_Integer.calls k _ _ l0 nu r1 r2 r3 _ ?g1 HC.out AI.out).mono ?_; (case g1 => exact St.C (stn_ : St w _ bl bv bk A0 c0 l0.length _ _ _ _) HR.out); rintro e w9 ⟨rfl, hb⟩; have n0_ := Aside0.mk (St.below (stn_ : St w _ bl bv bk A0 c0 l0.length _ _ _ _) hb); clear HX; have HX := n0_; clear n0_ hb; have hcl := HX.out.cl; have hc0 := HX.out.c0; have hc1 := HX.out.c1; have hc2 := HX.out.c2; have hck := HX.out.ck; obtain ⟨hz0, hz1, hz2, hzk⟩ := HX.out.f; obtain ⟨hn0, hn1, hn2, hn3, hn4, hn5⟩ := HX.out.ne))
                (try (rw [Exit.noGoto_ret]; try dsimp only [Exit.inBlock, Exit.then]))
                refine bodyPost_ret (results_ctt rfl _ _ bv 41 #[.int .i64 0, .int .i64 0, .string (⟨#[]⟩ : ByteArray)] (0, 0) _ rfl ((stn_ : St w _ bl bv bk A0 c0 l0.length 0 0 (⟨#[]⟩ : ByteArray) _)).v Tryd.underlying41 rfl (by kernel_rfl)) rfl ?_
                exact ⟨rsl_, ((stn_ : St w _ bl bv bk A0 c0 l0.length 0 0 (⟨#[]⟩ : ByteArray) _)).b⟩
              · have e5q : (r3 != 0) = false := by rw [bne_eq_false_iff_eq]; omega
                by_cases e6 : r1 > 10000
                · have e6q : decide (10000 < r1) = true := decide_eq_true e6
                  rw [if_pos (Or.inr (Or.inl e6))] at h
                  simp only [Option.some.injEq, Prod.mk.injEq] at h
                  obtain ⟨rfl, rfl, rfl, rfl, rfl⟩ := h
                  go_wp2_with (first | go_step3 | (go_at_call 46; with_reducible refine (value_Integer.calls k _ _ l0 nu r1 r2 r3 _ ?g1 HC.out AI.out).mono ?_; (case g1 => exact St.C (stn_ : St w _ bl bv bk A0 c0 l0.length _ _ _ _) HR.out); rintro e w9 ⟨rfl, hb⟩; have n0_ := Aside0.mk (St.below (stn_ : St w _ bl bv bk A0 c0 l0.length _ _ _ _) hb); clear HX; have HX := n0_; clear n0_ hb; have hcl := HX.out.cl; have hc0 := HX.out.c0; have hc1 := HX.out.c1; have hc2 := HX.out.c2; have hck := HX.out.ck; obtain ⟨hz0, hz1, hz2, hzk⟩ := HX.out.f; obtain ⟨hn0, hn1, hn2, hn3, hn4, hn5⟩ := HX.out.ne))
                  (try (rw [Exit.noGoto_ret]; try dsimp only [Exit.inBlock, Exit.then]))
                  refine bodyPost_ret (results_ctt rfl _ _ bv 41 #[.int .i64 0, .int .i64 0, .string (⟨#[]⟩ : ByteArray)] (0, 0) _ rfl ((stn_ : St w _ bl bv bk A0 c0 l0.length 0 0 (⟨#[]⟩ : ByteArray) _)).v Tryd.underlying41 rfl (by kernel_rfl)) rfl ?_
                  exact ⟨rsl_, ((stn_ : St w _ bl bv bk A0 c0 l0.length 0 0 (⟨#[]⟩ : ByteArray) _)).b⟩
                · have e6q : decide (10000 < r1) = false := decide_eq_false e6
                  by_cases e7 : r1 < -10000
                  · have e7q : decide (r1 < -10000) = true := decide_eq_true e7
                    rw [if_pos (Or.inr (Or.inr e7))] at h
                    simp only [Option.some.injEq, Prod.mk.injEq] at h
                    obtain ⟨rfl, rfl, rfl, rfl, rfl⟩ := h
                    go_wp2_with (first | go_step3 | (go_at_call 46; with_reducible refine (value_Integer.calls k _ _ l0 nu r1 r2 r3 _ ?g1 HC.out AI.out).mono ?_; (case g1 => exact St.C (stn_ : St w _ bl bv bk A0 c0 l0.length _ _ _ _) HR.out); rintro e w9 ⟨rfl, hb⟩; have n0_ := Aside0.mk (St.below (stn_ : St w _ bl bv bk A0 c0 l0.length _ _ _ _) hb); clear HX; have HX := n0_; clear n0_ hb; have hcl := HX.out.cl; have hc0 := HX.out.c0; have hc1 := HX.out.c1; have hc2 := HX.out.c2; have hck := HX.out.ck; obtain ⟨hz0, hz1, hz2, hzk⟩ := HX.out.f; obtain ⟨hn0, hn1, hn2, hn3, hn4, hn5⟩ := HX.out.ne))
                    (try (rw [Exit.noGoto_ret]; try dsimp only [Exit.inBlock, Exit.then]))
                    refine bodyPost_ret (results_ctt rfl _ _ bv 41 #[.int .i64 0, .int .i64 0, .string (⟨#[]⟩ : ByteArray)] (0, 0) _ rfl ((stn_ : St w _ bl bv bk A0 c0 l0.length 0 0 (⟨#[]⟩ : ByteArray) _)).v Tryd.underlying41 rfl (by kernel_rfl)) rfl ?_
                    exact ⟨rsl_, ((stn_ : St w _ bl bv bk A0 c0 l0.length 0 0 (⟨#[]⟩ : ByteArray) _)).b⟩
                  · have e7q : decide (r1 < -10000) = false := decide_eq_false e7
                    rw [if_neg (by omega)] at h
                    by_cases e8 : r1 = 0
                    · have e8q : (r1 == 0) = true := beq_iff_eq.2 e8
                      rw [if_pos (Or.inl e8)] at h
                      simp only [Option.some.injEq, Prod.mk.injEq] at h
                      obtain ⟨rfl, rfl, rfl, rfl, rfl⟩ := h
                      go_wp2_with (first | go_step3 | (go_at_call 46; with_reducible refine (value_Integer.calls k _ _ l0 nu r1 r2 r3 _ ?g1 HC.out AI.out).mono ?_; (case g1 => exact St.C (stn_ : St w _ bl bv bk A0 c0 l0.length _ _ _ _) HR.out); rintro e w9 ⟨rfl, hb⟩; have n0_ := Aside0.mk (St.below (stn_ : St w _ bl bv bk A0 c0 l0.length _ _ _ _) hb); clear HX; have HX := n0_; clear n0_ hb; have hcl := HX.out.cl; have hc0 := HX.out.c0; have hc1 := HX.out.c1; have hc2 := HX.out.c2; have hck := HX.out.ck; obtain ⟨hz0, hz1, hz2, hzk⟩ := HX.out.f; obtain ⟨hn0, hn1, hn2, hn3, hn4, hn5⟩ := HX.out.ne))
                      (try (rw [Exit.noGoto_ret]; try dsimp only [Exit.inBlock, Exit.then]))
                      refine bodyPost_ret (results_ctt rfl _ _ bv 41 #[.int .i64 0, .int .i64 0, .string (⟨#[]⟩ : ByteArray)] (0, 0) _ rfl ((stn_ : St w _ bl bv bk A0 c0 l0.length 0 0 (⟨#[]⟩ : ByteArray) _)).v Tryd.underlying41 rfl (by kernel_rfl)) rfl ?_
                      exact ⟨rsl_, ((stn_ : St w _ bl bv bk A0 c0 l0.length 0 0 (⟨#[]⟩ : ByteArray) _)).b⟩
                    · have e8q : (r1 == 0) = false := beq_eq_false_iff_ne.2 e8
                      by_cases e9 : r1 < 0
                      · have e9q : decide (r1 < 0) = true := decide_eq_true e9
                        rw [if_pos (Or.inr ⟨e9, e2⟩)] at h
                        simp only [Option.some.injEq, Prod.mk.injEq] at h
                        obtain ⟨rfl, rfl, rfl, rfl, rfl⟩ := h
                        go_wp2_with (first | go_step3 | (go_at_call 46; with_reducible refine (value_Integer.calls k _ _ l0 nu r1 r2 r3 _ ?g1 HC.out AI.out).mono ?_; (case g1 => exact St.C (stn_ : St w _ bl bv bk A0 c0 l0.length _ _ _ _) HR.out); rintro e w9 ⟨rfl, hb⟩; have n0_ := Aside0.mk (St.below (stn_ : St w _ bl bv bk A0 c0 l0.length _ _ _ _) hb); clear HX; have HX := n0_; clear n0_ hb; have hcl := HX.out.cl; have hc0 := HX.out.c0; have hc1 := HX.out.c1; have hc2 := HX.out.c2; have hck := HX.out.ck; obtain ⟨hz0, hz1, hz2, hzk⟩ := HX.out.f; obtain ⟨hn0, hn1, hn2, hn3, hn4, hn5⟩ := HX.out.ne))
                        (try (rw [Exit.noGoto_ret]; try dsimp only [Exit.inBlock, Exit.then]))
                        refine bodyPost_ret (results_ctt rfl _ _ bv 41 #[.int .i64 0, .int .i64 0, .string (⟨#[]⟩ : ByteArray)] (0, 0) _ rfl ((stn_ : St w _ bl bv bk A0 c0 l0.length 0 0 (⟨#[]⟩ : ByteArray) _)).v Tryd.underlying41 rfl (by kernel_rfl)) rfl ?_
                        exact ⟨rsl_, ((stn_ : St w _ bl bv bk A0 c0 l0.length 0 0 (⟨#[]⟩ : ByteArray) _)).b⟩
                      · have e9q : decide (r1 < 0) = false := decide_eq_false e9
                        rw [if_neg (by omega), if_neg (by omega)] at h
                        simp only [Option.some.injEq, Prod.mk.injEq] at h
                        obtain ⟨rfl, rfl, rfl, rfl, rfl⟩ := h
                        go_wp2_with (first | go_step3 | (go_at_call 46; with_reducible refine (value_Integer.calls k _ _ l0 nu r1 r2 r3 _ ?g1 HC.out AI.out).mono ?_; (case g1 => exact St.C (stn_ : St w _ bl bv bk A0 c0 l0.length _ _ _ _) HR.out); rintro e w9 ⟨rfl, hb⟩; have n0_ := Aside0.mk (St.below (stn_ : St w _ bl bv bk A0 c0 l0.length _ _ _ _) hb); clear HX; have HX := n0_; clear n0_ hb; have hcl := HX.out.cl; have hc0 := HX.out.c0; have hc1 := HX.out.c1; have hc2 := HX.out.c2; have hck := HX.out.ck; obtain ⟨hz0, hz1, hz2, hzk⟩ := HX.out.f; obtain ⟨hn0, hn1, hn2, hn3, hn4, hn5⟩ := HX.out.ne))
                        refine at_ (fun w4 hw4 => ?_)
                        have HX4 : Aside0 (St w w4.drew bl bv bk A0 c0 l0.length 4 r1 nm kk) := ⟨St.drew (by rw [hw4]; exact stn_)⟩
                        clear hw4 HX hcl hc0 hc1 hc2 hck hz0 hz1 hz2 hzk
                        refine start_ (n := 5) (S := (fun w' => w'.cell? ⟨bv, 0, none⟩ = some (.int .i64 4) ∧ w'.cell? ⟨bv, 1, none⟩ = some (.int .i64 r1) ∧ w'.cell? ⟨bv, 2, none⟩ = some (.string nm) ∧ w'.cell? ⟨bk, 0, none⟩ = some (.int .i64 kk))) (ds := []) #[false, false, false, false, false] (by kernel_rfl) rfl rfl ⟨HX4.out.c0, HX4.out.c1, HX4.out.c2, HX4.out.ck⟩ (fun hHeld => ?_)
                        refine with_tabW Read.tab36 Read.bits36 (fun HT_ HW_ => ?_)
                        generalize w4.drew = w5 at HX4 hHeld ⊢
                        obtain ⟨hz0, hz1, hz2, hzk⟩ := HX4.out.f
                        refine tas_ 0 (some 140) #[true, false, false, false, false] rfl rfl HT_.out HW_.out hHeld ?_
                        refine tas_ 1 (some 141) #[true, true, false, false, false] rfl rfl HT_.out HW_.out hHeld ?_
                        have hc0 := HX4.out.c0
                        have hc1 := HX4.out.c1
                        have hc2 := HX4.out.c2
                        have HX6 := Aside0.mk (((HX4.out.setv0 4).setv1 r1).setv2 nm)
                        refine one_ (i := 2) (N := none) #[true, true, true, false, false] rfl rfl (one_of HT_.out (by kernel_rfl)) (by decide) (fun K hK => ?_)
                        refine skip_ (w1 := ?_) (by rfl) rfl ?_ ?_
                        rotate_left
                        ·go_simp
                         rfl
                        refine hK.out _ _ ⟨HX6.out.c0, HX6.out.c1, HX6.out.c2, HX6.out.ck⟩ (fun hHeld => ?_)
                        clear hK K
                        refine pus_ 3 (some 5) #[true, true, true, true, false] rfl rfl HT_.out ?_
                        refine pus_ 4 (some 6) #[true, true, true, true, true] rfl rfl HT_.out ?_
                        refine done_ (done_of HT_.out (by kernel_rfl)) ?_
                        go_wp2
                        (try (rw [Exit.noGoto_ret]; try dsimp only [Exit.inBlock, Exit.then]))
                        refine bodyPost_ret (results_ctt rfl _ _ bv 41 #[.int .i64 4, .int .i64 r1, .string nm] (0, 0) _ rfl HX6.out.v Tryd.underlying41 rfl (by kernel_rfl)) rfl ?_
                        exact ⟨rsl_, HX6.out.b⟩
          · have e2q : decide (0 ≤ sp) = false := decide_eq_false e2
            by_cases e3 : nu < 0
            · have e3q : decide (nu < 0) = true := decide_eq_true e3
              rw [if_neg (fun z => e2 z.1), if_pos e3, if_neg e2, if_neg e2] at h
              simp only [Option.some.injEq, Prod.mk.injEq] at h
              obtain ⟨rfl, rfl, rfl, rfl, rfl⟩ := h
              go_wp2_with (first | go_step3 | (go_at_call 46; with_reducible refine (value_Integer.calls k _ _ l0 nu r1 r2 r3 _ ?g1 HC.out AI.out).mono ?_; (case g1 => exact St.C (stn_ : St w _ bl bv bk A0 c0 l0.length _ _ _ _) HR.out); rintro e w9 ⟨rfl, hb⟩; have n0_ := Aside0.mk (St.below (stn_ : St w _ bl bv bk A0 c0 l0.length _ _ _ _) hb); clear HX; have HX := n0_; clear n0_ hb; have hcl := HX.out.cl; have hc0 := HX.out.c0; have hc1 := HX.out.c1; have hc2 := HX.out.c2; have hck := HX.out.ck; obtain ⟨hz0, hz1, hz2, hzk⟩ := HX.out.f; obtain ⟨hn0, hn1, hn2, hn3, hn4, hn5⟩ := HX.out.ne))
              refine at_ (fun w4 hw4 => ?_)
              have HX4 : Aside0 (St w w4.drew bl bv bk A0 c0 l0.length 3 0 nm kk) := ⟨St.drew (by rw [hw4]; exact stn_)⟩
              clear hw4 HX hcl hc0 hc1 hc2 hck hz0 hz1 hz2 hzk
              refine start_ (n := 5) (S := (fun w' => w'.cell? ⟨bv, 0, none⟩ = some (.int .i64 3) ∧ w'.cell? ⟨bv, 1, none⟩ = some (.int .i64 0) ∧ w'.cell? ⟨bv, 2, none⟩ = some (.string nm) ∧ w'.cell? ⟨bk, 0, none⟩ = some (.int .i64 kk))) (ds := []) #[false, false, false, false, false] (by kernel_rfl) rfl rfl ⟨HX4.out.c0, HX4.out.c1, HX4.out.c2, HX4.out.ck⟩ (fun hHeld => ?_)
              refine with_tabW Read.tab27 Read.bits27 (fun HT_ HW_ => ?_)
              generalize w4.drew = w5 at HX4 hHeld ⊢
              obtain ⟨hz0, hz1, hz2, hzk⟩ := HX4.out.f
              refine tas_ 0 (some 100) #[true, false, false, false, false] rfl rfl HT_.out HW_.out hHeld ?_
              refine tas_ 1 (some 101) #[true, true, false, false, false] rfl rfl HT_.out HW_.out hHeld ?_
              have hc0 := HX4.out.c0
              have hc1 := HX4.out.c1
              have hc2 := HX4.out.c2
              have HX6 := Aside0.mk (((HX4.out.setv0 3).setv1 0).setv2 nm)
              refine one_ (i := 2) (N := none) #[true, true, true, false, false] rfl rfl (one_of HT_.out (by kernel_rfl)) (by decide) (fun K hK => ?_)
              refine skip_ (w1 := ?_) (by rfl) rfl ?_ ?_
              rotate_left
              ·go_simp
               rfl
              refine hK.out _ _ ⟨HX6.out.c0, HX6.out.c1, HX6.out.c2, HX6.out.ck⟩ (fun hHeld => ?_)
              clear hK K
              refine pus_ 3 (some 5) #[true, true, true, true, false] rfl rfl HT_.out ?_
              refine pus_ 4 (some 6) #[true, true, true, true, true] rfl rfl HT_.out ?_
              refine done_ (done_of HT_.out (by kernel_rfl)) ?_
              go_wp2
              (try (rw [Exit.noGoto_ret]; try dsimp only [Exit.inBlock, Exit.then]))
              refine bodyPost_ret (results_ctt rfl _ _ bv 41 #[.int .i64 3, .int .i64 0, .string nm] (0, 0) _ rfl HX6.out.v Tryd.underlying41 rfl (by kernel_rfl)) rfl ?_
              exact ⟨rsl_, HX6.out.b⟩
            · have e3q : decide (nu < 0) = false := decide_eq_false e3
              rw [if_neg (fun z => e2 z.1), if_neg e3] at h
              replace h := Option.bind_eq_some_iff.mp h
              obtain ⟨⟨r1, r2, r3⟩, hI, h⟩ := h
              have AI := Aside0.mk hI
              clear hI
              dsimp only at h
              have e2r : decide (sp < 0) = true := decide_eq_true (by omega)
              by_cases e5 : r3 ≠ 0
              · have e5q : (r3 != 0) = true := bne_iff_ne.2 e5
                rw [if_pos (Or.inl e5)] at h
                simp only [Option.some.injEq, Prod.mk.injEq] at h
                obtain ⟨rfl, rfl, rfl, rfl, rfl⟩ := h
                go_wp2_with (first | go_step3 | (go_at_call 46; with_reducible refine (value_Integer.calls k _ _ l0 nu r1 r2 r3 _ ?g1 HC.out AI.out).mono ?_; (case g1 => exact St.C (stn_ : St w _ bl bv bk A0 c0 l0.length _ _ _ _) HR.out); rintro e w9 ⟨rfl, hb⟩; have n0_ := Aside0.mk (St.below (stn_ : St w _ bl bv bk A0 c0 l0.length _ _ _ _) hb); clear HX; have HX := n0_; clear n0_ hb; have hcl := HX.out.cl; have hc0 := HX.out.c0; have hc1 := HX.out.c1; have hc2 := HX.out.c2; have hck := HX.out.ck; obtain ⟨hz0, hz1, hz2, hzk⟩ := HX.out.f; obtain ⟨hn0, hn1, hn2, hn3, hn4, hn5⟩ := HX.out.ne))
                (try (rw [Exit.noGoto_ret]; try dsimp only [Exit.inBlock, Exit.then]))
                refine bodyPost_ret (results_ctt rfl _ _ bv 41 #[.int .i64 0, .int .i64 0, .string (⟨#[]⟩ : ByteArray)] (0, 0) _ rfl ((stn_ : St w _ bl bv bk A0 c0 l0.length 0 0 (⟨#[]⟩ : ByteArray) _)).v Tryd.underlying41 rfl (by kernel_rfl)) rfl ?_
                exact ⟨rsl_, ((stn_ : St w _ bl bv bk A0 c0 l0.length 0 0 (⟨#[]⟩ : ByteArray) _)).b⟩
              · have e5q : (r3 != 0) = false := by rw [bne_eq_false_iff_eq]; omega
                by_cases e6 : r1 > 10000
                · have e6q : decide (10000 < r1) = true := decide_eq_true e6
                  rw [if_pos (Or.inr (Or.inl e6))] at h
                  simp only [Option.some.injEq, Prod.mk.injEq] at h
                  obtain ⟨rfl, rfl, rfl, rfl, rfl⟩ := h
                  go_wp2_with (first | go_step3 | (go_at_call 46; with_reducible refine (value_Integer.calls k _ _ l0 nu r1 r2 r3 _ ?g1 HC.out AI.out).mono ?_; (case g1 => exact St.C (stn_ : St w _ bl bv bk A0 c0 l0.length _ _ _ _) HR.out); rintro e w9 ⟨rfl, hb⟩; have n0_ := Aside0.mk (St.below (stn_ : St w _ bl bv bk A0 c0 l0.length _ _ _ _) hb); clear HX; have HX := n0_; clear n0_ hb; have hcl := HX.out.cl; have hc0 := HX.out.c0; have hc1 := HX.out.c1; have hc2 := HX.out.c2; have hck := HX.out.ck; obtain ⟨hz0, hz1, hz2, hzk⟩ := HX.out.f; obtain ⟨hn0, hn1, hn2, hn3, hn4, hn5⟩ := HX.out.ne))
                  (try (rw [Exit.noGoto_ret]; try dsimp only [Exit.inBlock, Exit.then]))
                  refine bodyPost_ret (results_ctt rfl _ _ bv 41 #[.int .i64 0, .int .i64 0, .string (⟨#[]⟩ : ByteArray)] (0, 0) _ rfl ((stn_ : St w _ bl bv bk A0 c0 l0.length 0 0 (⟨#[]⟩ : ByteArray) _)).v Tryd.underlying41 rfl (by kernel_rfl)) rfl ?_
                  exact ⟨rsl_, ((stn_ : St w _ bl bv bk A0 c0 l0.length 0 0 (⟨#[]⟩ : ByteArray) _)).b⟩
                · have e6q : decide (10000 < r1) = false := decide_eq_false e6
                  by_cases e7 : r1 < -10000
                  · have e7q : decide (r1 < -10000) = true := decide_eq_true e7
                    rw [if_pos (Or.inr (Or.inr e7))] at h
                    simp only [Option.some.injEq, Prod.mk.injEq] at h
                    obtain ⟨rfl, rfl, rfl, rfl, rfl⟩ := h
                    go_wp2_with (first | go_step3 | (go_at_call 46; with_reducible refine (value_Integer.calls k _ _ l0 nu r1 r2 r3 _ ?g1 HC.out AI.out).mono ?_; (case g1 => exact St.C (stn_ : St w _ bl bv bk A0 c0 l0.length _ _ _ _) HR.out); rintro e w9 ⟨rfl, hb⟩; have n0_ := Aside0.mk (St.below (stn_ : St w _ bl bv bk A0 c0 l0.length _ _ _ _) hb); clear HX; have HX := n0_; clear n0_ hb; have hcl := HX.out.cl; have hc0 := HX.out.c0; have hc1 := HX.out.c1; have hc2 := HX.out.c2; have hck := HX.out.ck; obtain ⟨hz0, hz1, hz2, hzk⟩ := HX.out.f; obtain ⟨hn0, hn1, hn2, hn3, hn4, hn5⟩ := HX.out.ne))
                    (try (rw [Exit.noGoto_ret]; try dsimp only [Exit.inBlock, Exit.then]))
                    refine bodyPost_ret (results_ctt rfl _ _ bv 41 #[.int .i64 0, .int .i64 0, .string (⟨#[]⟩ : ByteArray)] (0, 0) _ rfl ((stn_ : St w _ bl bv bk A0 c0 l0.length 0 0 (⟨#[]⟩ : ByteArray) _)).v Tryd.underlying41 rfl (by kernel_rfl)) rfl ?_
                    exact ⟨rsl_, ((stn_ : St w _ bl bv bk A0 c0 l0.length 0 0 (⟨#[]⟩ : ByteArray) _)).b⟩
                  · have e7q : decide (r1 < -10000) = false := decide_eq_false e7
                    rw [if_neg (by omega)] at h
                    by_cases e8 : r1 = 0
                    · have e8q : (r1 == 0) = true := beq_iff_eq.2 e8
                      rw [if_pos (Or.inl e8)] at h
                      simp only [Option.some.injEq, Prod.mk.injEq] at h
                      obtain ⟨rfl, rfl, rfl, rfl, rfl⟩ := h
                      go_wp2_with (first | go_step3 | (go_at_call 46; with_reducible refine (value_Integer.calls k _ _ l0 nu r1 r2 r3 _ ?g1 HC.out AI.out).mono ?_; (case g1 => exact St.C (stn_ : St w _ bl bv bk A0 c0 l0.length _ _ _ _) HR.out); rintro e w9 ⟨rfl, hb⟩; have n0_ := Aside0.mk (St.below (stn_ : St w _ bl bv bk A0 c0 l0.length _ _ _ _) hb); clear HX; have HX := n0_; clear n0_ hb; have hcl := HX.out.cl; have hc0 := HX.out.c0; have hc1 := HX.out.c1; have hc2 := HX.out.c2; have hck := HX.out.ck; obtain ⟨hz0, hz1, hz2, hzk⟩ := HX.out.f; obtain ⟨hn0, hn1, hn2, hn3, hn4, hn5⟩ := HX.out.ne))
                      (try (rw [Exit.noGoto_ret]; try dsimp only [Exit.inBlock, Exit.then]))
                      refine bodyPost_ret (results_ctt rfl _ _ bv 41 #[.int .i64 0, .int .i64 0, .string (⟨#[]⟩ : ByteArray)] (0, 0) _ rfl ((stn_ : St w _ bl bv bk A0 c0 l0.length 0 0 (⟨#[]⟩ : ByteArray) _)).v Tryd.underlying41 rfl (by kernel_rfl)) rfl ?_
                      exact ⟨rsl_, ((stn_ : St w _ bl bv bk A0 c0 l0.length 0 0 (⟨#[]⟩ : ByteArray) _)).b⟩
                    · have e8q : (r1 == 0) = false := beq_eq_false_iff_ne.2 e8
                      by_cases e9 : r1 < 0
                      · have e9q : decide (r1 < 0) = true := decide_eq_true e9
                        rw [if_neg (by omega), if_pos (by omega)] at h
                        simp only [Option.some.injEq, Prod.mk.injEq] at h
                        obtain ⟨rfl, rfl, rfl, rfl, rfl⟩ := h
                        go_wp2_with (first | go_step3 | (go_at_call 46; with_reducible refine (value_Integer.calls k _ _ l0 nu r1 r2 r3 _ ?g1 HC.out AI.out).mono ?_; (case g1 => exact St.C (stn_ : St w _ bl bv bk A0 c0 l0.length _ _ _ _) HR.out); rintro e w9 ⟨rfl, hb⟩; have n0_ := Aside0.mk (St.below (stn_ : St w _ bl bv bk A0 c0 l0.length _ _ _ _) hb); clear HX; have HX := n0_; clear n0_ hb; have hcl := HX.out.cl; have hc0 := HX.out.c0; have hc1 := HX.out.c1; have hc2 := HX.out.c2; have hck := HX.out.ck; obtain ⟨hz0, hz1, hz2, hzk⟩ := HX.out.f; obtain ⟨hn0, hn1, hn2, hn3, hn4, hn5⟩ := HX.out.ne))
                        refine at_ (fun w4 hw4 => ?_)
                        have HX4 : Aside0 (St w w4.drew bl bv bk A0 c0 l0.length 2 r1 nm kk) := ⟨St.drew (by rw [hw4]; exact stn_)⟩
                        clear hw4 HX hcl hc0 hc1 hc2 hck hz0 hz1 hz2 hzk
                        refine start_ (n := 5) (S := (fun w' => w'.cell? ⟨bv, 0, none⟩ = some (.int .i64 2) ∧ w'.cell? ⟨bv, 1, none⟩ = some (.int .i64 r1) ∧ w'.cell? ⟨bv, 2, none⟩ = some (.string nm) ∧ w'.cell? ⟨bk, 0, none⟩ = some (.int .i64 kk))) (ds := []) #[false, false, false, false, false] (by kernel_rfl) rfl rfl ⟨HX4.out.c0, HX4.out.c1, HX4.out.c2, HX4.out.ck⟩ (fun hHeld => ?_)
                        refine with_tabW Read.tab36 Read.bits36 (fun HT_ HW_ => ?_)
                        generalize w4.drew = w5 at HX4 hHeld ⊢
                        obtain ⟨hz0, hz1, hz2, hzk⟩ := HX4.out.f
                        refine tas_ 0 (some 140) #[true, false, false, false, false] rfl rfl HT_.out HW_.out hHeld ?_
                        refine tas_ 1 (some 141) #[true, true, false, false, false] rfl rfl HT_.out HW_.out hHeld ?_
                        have hc0 := HX4.out.c0
                        have hc1 := HX4.out.c1
                        have hc2 := HX4.out.c2
                        have HX6 := Aside0.mk (((HX4.out.setv0 2).setv1 r1).setv2 nm)
                        refine one_ (i := 2) (N := none) #[true, true, true, false, false] rfl rfl (one_of HT_.out (by kernel_rfl)) (by decide) (fun K hK => ?_)
                        refine skip_ (w1 := ?_) (by rfl) rfl ?_ ?_
                        rotate_left
                        ·go_simp
                         rfl
                        refine hK.out _ _ ⟨HX6.out.c0, HX6.out.c1, HX6.out.c2, HX6.out.ck⟩ (fun hHeld => ?_)
                        clear hK K
                        refine pus_ 3 (some 5) #[true, true, true, true, false] rfl rfl HT_.out ?_
                        refine pus_ 4 (some 6) #[true, true, true, true, true] rfl rfl HT_.out ?_
                        refine done_ (done_of HT_.out (by kernel_rfl)) ?_
                        go_wp2
                        (try (rw [Exit.noGoto_ret]; try dsimp only [Exit.inBlock, Exit.then]))
                        refine bodyPost_ret (results_ctt rfl _ _ bv 41 #[.int .i64 2, .int .i64 r1, .string nm] (0, 0) _ rfl HX6.out.v Tryd.underlying41 rfl (by kernel_rfl)) rfl ?_
                        exact ⟨rsl_, HX6.out.b⟩
                      · have e9q : decide (r1 < 0) = false := decide_eq_false e9
                        rw [if_neg (by omega), if_pos (by omega)] at h
                        simp only [Option.some.injEq, Prod.mk.injEq] at h
                        obtain ⟨rfl, rfl, rfl, rfl, rfl⟩ := h
                        go_wp2_with (first | go_step3 | (go_at_call 46; with_reducible refine (value_Integer.calls k _ _ l0 nu r1 r2 r3 _ ?g1 HC.out AI.out).mono ?_; (case g1 => exact St.C (stn_ : St w _ bl bv bk A0 c0 l0.length _ _ _ _) HR.out); rintro e w9 ⟨rfl, hb⟩; have n0_ := Aside0.mk (St.below (stn_ : St w _ bl bv bk A0 c0 l0.length _ _ _ _) hb); clear HX; have HX := n0_; clear n0_ hb; have hcl := HX.out.cl; have hc0 := HX.out.c0; have hc1 := HX.out.c1; have hc2 := HX.out.c2; have hck := HX.out.ck; obtain ⟨hz0, hz1, hz2, hzk⟩ := HX.out.f; obtain ⟨hn0, hn1, hn2, hn3, hn4, hn5⟩ := HX.out.ne))
                        refine at_ (fun w4 hw4 => ?_)
                        have HX4 : Aside0 (St w w4.drew bl bv bk A0 c0 l0.length 2 r1 nm kk) := ⟨St.drew (by rw [hw4]; exact stn_)⟩
                        clear hw4 HX hcl hc0 hc1 hc2 hck hz0 hz1 hz2 hzk
                        refine start_ (n := 5) (S := (fun w' => w'.cell? ⟨bv, 0, none⟩ = some (.int .i64 2) ∧ w'.cell? ⟨bv, 1, none⟩ = some (.int .i64 r1) ∧ w'.cell? ⟨bv, 2, none⟩ = some (.string nm) ∧ w'.cell? ⟨bk, 0, none⟩ = some (.int .i64 kk))) (ds := []) #[false, false, false, false, false] (by kernel_rfl) rfl rfl ⟨HX4.out.c0, HX4.out.c1, HX4.out.c2, HX4.out.ck⟩ (fun hHeld => ?_)
                        refine with_tabW Read.tab36 Read.bits36 (fun HT_ HW_ => ?_)
                        generalize w4.drew = w5 at HX4 hHeld ⊢
                        obtain ⟨hz0, hz1, hz2, hzk⟩ := HX4.out.f
                        refine tas_ 0 (some 140) #[true, false, false, false, false] rfl rfl HT_.out HW_.out hHeld ?_
                        refine tas_ 1 (some 141) #[true, true, false, false, false] rfl rfl HT_.out HW_.out hHeld ?_
                        have hc0 := HX4.out.c0
                        have hc1 := HX4.out.c1
                        have hc2 := HX4.out.c2
                        have HX6 := Aside0.mk (((HX4.out.setv0 2).setv1 r1).setv2 nm)
                        refine one_ (i := 2) (N := none) #[true, true, true, false, false] rfl rfl (one_of HT_.out (by kernel_rfl)) (by decide) (fun K hK => ?_)
                        refine skip_ (w1 := ?_) (by rfl) rfl ?_ ?_
                        rotate_left
                        ·go_simp
                         rfl
                        refine hK.out _ _ ⟨HX6.out.c0, HX6.out.c1, HX6.out.c2, HX6.out.ck⟩ (fun hHeld => ?_)
                        clear hK K
                        refine pus_ 3 (some 5) #[true, true, true, true, false] rfl rfl HT_.out ?_
                        refine pus_ 4 (some 6) #[true, true, true, true, true] rfl rfl HT_.out ?_
                        refine done_ (done_of HT_.out (by kernel_rfl)) ?_
                        go_wp2
                        (try (rw [Exit.noGoto_ret]; try dsimp only [Exit.inBlock, Exit.then]))
                        refine bodyPost_ret (results_ctt rfl _ _ bv 41 #[.int .i64 2, .int .i64 r1, .string nm] (0, 0) _ rfl HX6.out.v Tryd.underlying41 rfl (by kernel_rfl)) rfl ?_
                        exact ⟨rsl_, HX6.out.b⟩
end line_Read
end Go.Proofs.YtofdhdafabmhmaaDoor.Giv
end
section
namespace Go.Proofs.YtofdhdafabmhmaaDoor.PLa
open Go.RowKit Go.Proofs.YtofdhdafabmhmaaDoorW.PrintWords Go.Proofs.YtofdhdafabmhmaaDoorW.PrintLast Go.Proofs.YtofdhdafabmhmaaDoorW.PrintMore
attribute [local go_sem] max2_int min2_int max_two min_two max_three min_three max_four min_four
open Go.Proofs.YtofdhdafabmhmaaDoor.Opn Go.Proofs.YtofdhdafabmhmaaDoor.Giv

/-! ### line_lines: function 49 -/
def line_lines.l0 : Nat → List (S67) → Int → List (S41) → Int → Option ((List (S41)) × Int × Int)
 | 0, _, _, _, _ => none
 | k + 1, x0, x2, x6, x7 => (line_Read.f k x0 x7).bind fun bt241 => (if bt241.2.2.2.2 = 0 then (if x6.length < 4398046511104 then ((some (x6 ++ [(⟨bt241.1, bt241.2.1, bt241.2.2.1⟩ : S41)] : List (S41))).bind fun y246 => (if (y246.length : Int) = x2 then (some (y246, bt241.2.2.2.1, 0)) else ((value_Sign.f x0 bt241.2.2.2.1 (⟨#[47]⟩ : ByteArray)).bind fun t249 => (if t249 = true then (line_lines.l0 k x0 x2 y246 (wrap64 (bt241.2.2.2.1 + 1))) else (some (y246, bt241.2.2.2.1, 0)))))) else (none)) else (some (([] : List (S41)), bt241.2.2.2.1, bt241.2.2.2.2)))
def line_lines.f (k : Nat) (l0 : List (S67)) (a1 : Int) (a2 : Int) : Option ((List (S41)) × Int × Int) := line_lines.l0 k l0 a2 ([] : List (S41)) a1
theorem line_lines.mono_l : ∀ k, (∀ y0 y1 y2 y3, LeO (line_lines.l0 k y0 y1 y2 y3) (line_lines.l0 (k + 1) y0 y1 y2 y3))
 | 0 => fun _ _ _ _ r h => by simp [line_lines.l0] at h
 | k + 1 => by
  have ih0 := line_lines.mono_l k
  ·intro y0 y1 y2 y3
   unfold line_lines.l0
   repeat' first
   | (with_reducible exact ih0 _ _ _ _)
   | (with_reducible exact line_Read.mono _ _ _)
   | (with_reducible exact LeO.refl _)
   | (with_reducible exact LeO.none _)
   | (with_reducible refine LeO.ite ?_ ?_)
   | (with_reducible refine LeO.bind ?_ (fun _ => ?_))
theorem line_lines.mono : ∀ a0 a1 a2 k, LeO (line_lines.f k a0 a1 a2) (line_lines.f (k + 1) a0 a1 a2) := by
 intro a0 a1 a2 k
 have ih0 := line_lines.mono_l k
 unfold line_lines.f
 repeat' first
   | (with_reducible exact ih0 _ _ _ _)
   | (with_reducible exact line_Read.mono _ _ _)
   | (with_reducible exact LeO.refl _)
   | (with_reducible exact LeO.none _)
   | (with_reducible refine LeO.ite ?_ ?_)
   | (with_reducible refine LeO.bind ?_ (fun _ => ?_))
set_option maxHeartbeats 8000000 in
set_option maxRecDepth 100000 in
theorem line_lines.calls (k : Nat) (A0 : Option Addr) (c0 : Nat) (l0 : List (S67)) (a1 : Int) (a2 : Int) (r1 : List (S41)) (r2 : Int) (r3 : Int) (w : World) (hr0 : Kd.C k67 w A0 l0.length l0) (hc0 : l0.length ≤ c0) (h : line_lines.f k l0 a1 a2 = some (r1, r2, r3)) :
  Calls Tryd.prog 49 #[.slice A0 l0.length c0, .int .i64 a1, .int .i64 a2] w fun e w' => ∃ v0_ : Value, e = .returned (.tuple #[v0_, .int .i64 r2, .int .i64 r3]) ∧ Kd.R k41 41 w' w.heap.size (fun _ => True) v0_ r1 ∧ Below w.heap.size w w' := by
 have hu41 := Tryd.underlying41
 have HR0 := Aside0.mk hr0
 have HC0 := Aside0.mk hc0
 clear hr0 hc0
 have HB := Aside0.mk (Below.refl w.heap.size w)
 have H : (line_lines.l0 k l0 a2 ([] : List (S41)) a1) = some (r1, r2, r3) := h
 clear h
 have H' := Aside0.mk H
 clear H
 go_enter Tryd.func49, Tryd.ntmps49
 go_wp2
 go_loopg [6, 7] k (fun kq v6 v7 w' => ∃ (x6_1 : List (S41)) (x7_1 : Int), v7 = .int .i64 x7_1 ∧ Aside0 (line_lines.l0 kq l0 a2 x6_1 x7_1 = some (r1, r2, r3)) ∧ Aside0 (kq ≤ k) ∧ Aside0 (Kd.R k41 41 w' w.heap.size (fun _ => True) v6 x6_1) ∧ Aside0 (Below w.heap.size w w'))
 case atStart => exact ⟨(([] : List (S41))), (a1), rfs_, H', ⟨Nat.le_refl _⟩, ⟨by first | exact Kd.R_nil _ _ _ _ _ | exact Kd.N_nil _ _ _ _ _ | exact Kd.V_nil _ _ _ _ _ | exact Kd.Q_nil _ _ _ _ _ | exact Kd.S_nil _ _ _ _ _⟩, ⟨bel_⟩⟩
 case round =>
  clear H'
  try clear p2
  obtain ⟨x6_1, x7_1, rfl, HA, HK1, HO_6, HB⟩ := hrel
  cases gk with
  | zero => exact absurd HA.out (by simp [line_lines.l0])
  | succ k1 =>
   have H := HA.out
   clear HA
   simp only [line_lines.l0] at H
   replace H := Option.bind_eq_some_iff.mp H
   obtain ⟨⟨t241, t242, t243, t244, t245⟩, A40, H⟩ := H
   try dsimp only at H
   have A4 := Aside0.mk A40
   clear A40
   by_cases c5 : t245 = 0
   ·rw [if_pos c5] at H
    have c5b0 : (t245 == 0) = true := beq_iff_eq.mpr c5
    have c5b1 : (t245 != 0) = false := bne_eq_false_iff_eq.mpr c5
    clear c5
    by_cases c6 : x6_1.length < 4398046511104
    ·rw [if_pos c6] at H
     have LMc6 := Aside0.mk c6
     clear c6
     obtain ⟨y246, hy246⟩ : ∃ y_ : List (S41), y_ = (x6_1 ++ [(⟨t241, t242, t243⟩ : S41)]) := ⟨_, rfl⟩
     replace H : (if (y246.length : Int) = a2 then (some (y246, t244, 0)) else ((value_Sign.f l0 t244 (⟨#[47]⟩ : ByteArray)).bind fun t249 => (if t249 = true then (line_lines.l0 k1 l0 a2 y246 (wrap64 (t244 + 1))) else (some (y246, t244, 0))))) = some (r1, r2, r3) := by first | (rw [hy246]; with_reducible exact H) | (have H2_ := (Option.bind_some _ _).symm.trans H; rw [hy246]; with_reducible exact H2_) | (have H2_ := (Option.bind_some _ _).symm.trans H; with_reducible exact H2_) | with_reducible exact H | (rw [hy246]; exact H) | exact H
     have Ny246 := Aside0.mk hy246
     clear hy246
     by_cases c7 : (y246.length : Int) = a2
     ·rw [if_pos c7] at H
      have c7b0 : ((y246.length : Int) == a2) = true := beq_iff_eq.mpr c7
      have c7b1 : ((y246.length : Int) != a2) = false := bne_eq_false_iff_eq.mpr c7
      clear c7
      simp only [Option.some.injEq, Prod.mk.injEq] at H
      obtain ⟨rfl, rfl, rfl⟩ := H
      go_wp2_with (first | ((with_reducible refine gate_dst (N := 9) rfl ?_); refine box_event ?hg (N := 9) ?hd (cs := #[.int .i64 0, .int .i64 0, .string (⟨#[]⟩ : ByteArray)]) (t := 41) ?hr ?_; (case hd => rfl); (case hg => rfl); (case hr => first | (go_simp; done) | (go_simp; rfl)); intro gb240 hg w8 hbox hb; have n0_ := Aside0.mk (Kd.R_below (Kd.R_elderB (by (with_reducible repeat (first | apply Kd.R_alloc | apply Kd.R_drewN | apply Kd.R_drew)); exact HO_6.out) gb240 (Nat.le_of_eq hg.symm)) hb); have n1_ := Aside0.mk (below_step bel_ hb); have n2_ := Aside0.mk (hbox); have n3_ := Aside0.mk ((bsz_ hg : w.heap.size ≤ gb240)); have n4_ := Aside0.mk ((bsz_ hg : w.heap.size ≤ gb240)); clear HO_6; clear HB; have HO_6 := n0_; have HB := n1_; have BK240 := n2_; have GW240 := n3_; have GE240 := n4_; clear n0_ n1_ n2_ n3_ n4_; clear hb hbox hg) | ((with_reducible refine gate_callee (f := 23) rfl ?_); refine goesL_ (some 16) rfl rfl Tryd.func23 (by kernel_rfl) rfl #[.slice A0 l0.length c0, .int .i64 x7_1] rfl goa_ ?_; (with_reducible refine (line_Read.calls k1 _ _ l0 x7_1 t241 t242 t243 t244 t245 _ ?side1 ?side2 A4.out).mono ?_); (case side1 => repeat (first | exact (Kd.C_below HR0.out HB.out) | (with_reducible refine Kd.C_alloc ?_ _) | (with_reducible refine Kd.C_drewN ?_ _) | (with_reducible refine Kd.C_drew ?_))); (case side2 => exact HC0.out); rintro e w9 ⟨rfl, hb⟩; refine ⟨_, rfl, ?_⟩; have n0_ := Aside0.mk (Kd.R_below (by (with_reducible repeat (first | apply Kd.R_alloc | apply Kd.R_drewN | apply Kd.R_drew)); exact HO_6.out) hb); have n1_ := blb_ BK240 hb; have n2_ := Aside0.mk (below_step bel_ hb); clear HO_6; clear BK240; clear HB; have HO_6 := n0_; have BK240 := n1_; have HB := n2_; clear n0_ n1_ n2_; clear hb; have hcz10_0 : w9.cell? ⟨gb240, 0, none⟩ = some (.int .i64 0) := (blk_cell BK240.out 0).trans rfl; have hcz10_1 : w9.cell? ⟨gb240, 1, none⟩ = some (.int .i64 0) := (blk_cell BK240.out 1).trans rfl; have hcz10_2 : w9.cell? ⟨gb240, 2, none⟩ = some (.string (⟨#[]⟩ : ByteArray)) := (blk_cell BK240.out 2).trans rfl; have hfz10_0 := blk_frozen BK240.out 0; have hfz10_1 := blk_frozen BK240.out 1; have hfz10_2 := blk_frozen BK240.out 2) | ((with_reducible refine gate_builtin (b := .append) (xs := #[.tmp 24, .tmp 26]) rfl ?_); at_builtin; refine Kd.R_append k41 (w0 := w) w.heap.size rfl (.tmp 24) (.tmp 26) 77 41 (.agg #[(.int .i64 0), (.int .i64 0), (.string ⟨#[]⟩)]) 32 rfl Tryd.underlying77 info41 rfl (by decide) (by omega) u6 x6_1 (⟨t241, t242, t243⟩ : S41) [.int .i64 t241, .int .i64 t242, .string t243] (fun k_ => k_ ≠ gb240) (fun _ => False) rfl (by first | (go_simp; done) | (go_simp; rfl)) ?aP (fun _ hk => hk.elim) ?aF ?aO ?aB ?aS ?aL ?_; (case aP => exact k41_mkM _ _ _ (⟨t241, t242, t243⟩ : S41)); (case aB => exact bel_); (case aF => exact (fun k_ hk => Kd.freshB (g := gb240) (o := .cells #[.int .i64 t241, .int .i64 t242, .string t243] 41 (0, 0)) (by (with_reducible repeat (first | refine blk_drewN ?_ _ | refine blk_drew ?_ | refine blk_alloc ?_ _)); refine blk_put (cs := #[.int .i64 t241, .int .i64 t242, .string (⟨#[]⟩ : ByteArray)]) ?_ 2 _ rfl; (with_reducible repeat (first | refine blk_drewN ?_ _ | refine blk_drew ?_ | refine blk_alloc ?_ _)); refine blk_put (cs := #[.int .i64 t241, .int .i64 0, .string (⟨#[]⟩ : ByteArray)]) ?_ 1 _ rfl; (with_reducible repeat (first | refine blk_drewN ?_ _ | refine blk_drew ?_ | refine blk_alloc ?_ _)); refine blk_put (cs := #[.int .i64 0, .int .i64 0, .string (⟨#[]⟩ : ByteArray)]) ?_ 0 _ rfl; (with_reducible repeat (first | refine blk_drewN ?_ _ | refine blk_drew ?_ | refine blk_alloc ?_ _)); exact BK240.out) k_ hk)); (case aO => exact (by (with_reducible repeat (first | apply Kd.R_alloc | apply Kd.R_drewN | apply Kd.R_drew)); exact Kd.R_mono (Kd.R_far (p := ⟨gb240, 2, none⟩) (Kd.R_far (p := ⟨gb240, 1, none⟩) (Kd.R_far (p := ⟨gb240, 0, none⟩) (Kd.R_mono HO_6.out (fun k_ hk => (⟨hk, hk.2⟩ : _ ∧ k_ ≠ gb240))) (fun _ hk => hk.2) (.int .i64 t241)) (fun _ hk => hk.2) (.int .i64 t242)) (fun _ hk => hk.2) (.string t243)) (fun _ hk => hk.1.2))); (case aS => exact (below_size bel_)); (case aL => have := LMc6.out; omega); intro v247 w11 ho hb hg hat; rw [← Ny246.out] at ho; have n0_ := Aside0.mk (blk_grown (g := gb240) (o := .cells #[.int .i64 t241, .int .i64 t242, .string t243] 41 (0, 0)) (by (with_reducible repeat (first | refine blk_drewN ?_ _ | refine blk_drew ?_ | refine blk_alloc ?_ _)); refine blk_put (cs := #[.int .i64 t241, .int .i64 t242, .string (⟨#[]⟩ : ByteArray)]) ?_ 2 _ rfl; (with_reducible repeat (first | refine blk_drewN ?_ _ | refine blk_drew ?_ | refine blk_alloc ?_ _)); refine blk_put (cs := #[.int .i64 t241, .int .i64 0, .string (⟨#[]⟩ : ByteArray)]) ?_ 1 _ rfl; (with_reducible repeat (first | refine blk_drewN ?_ _ | refine blk_drew ?_ | refine blk_alloc ?_ _)); refine blk_put (cs := #[.int .i64 0, .int .i64 0, .string (⟨#[]⟩ : ByteArray)]) ?_ 0 _ rfl; (with_reducible repeat (first | refine blk_drewN ?_ _ | refine blk_drew ?_ | refine blk_alloc ?_ _)); exact BK240.out) hg (Kd.R_away HO_6.out (fun _ hk => hk.2))); have n1_ := Aside0.mk (hb); have n2_ := Aside0.mk (ho); clear BK240; clear HB; clear HO_6; have BK240 := n0_; have HB := n1_; have HO248 := n2_; clear n0_ n1_ n2_; clear ho hb hg hat; obtain ⟨Ao12, co12, eo12⟩ := Kd.R_slice HO248.out; subst eo12))
      go_ret3
      exact ⟨_, rsl_, by (with_reducible repeat (first | apply Kd.R_alloc | apply Kd.R_drewN | apply Kd.R_drew)); exact Kd.R_mono HO248.out (fun _ hk => trivial), bel_⟩
     ·rw [if_neg c7] at H
      have c7b0 : ((y246.length : Int) == a2) = false := beq_eq_false_iff_ne.mpr c7
      have c7b1 : ((y246.length : Int) != a2) = true := bne_iff_ne.mpr c7
      replace H := Option.bind_eq_some_iff.mp H
      obtain ⟨t249, A130, H⟩ := H
      try dsimp only at H
      have A13 := Aside0.mk A130
      clear A130
      by_cases c14 : t249 = true
      ·subst c14
       rw [if_pos rfl] at H
       have H' := Aside0.mk H
       clear H
       go_wp2_with (first | ((with_reducible refine gate_dst (N := 9) rfl ?_); refine box_event ?hg (N := 9) ?hd (cs := #[.int .i64 0, .int .i64 0, .string (⟨#[]⟩ : ByteArray)]) (t := 41) ?hr ?_; (case hd => rfl); (case hg => rfl); (case hr => first | (go_simp; done) | (go_simp; rfl)); intro gb240 hg w15 hbox hb; have n0_ := Aside0.mk (Kd.R_below (Kd.R_elderB (by (with_reducible repeat (first | apply Kd.R_alloc | apply Kd.R_drewN | apply Kd.R_drew)); exact HO_6.out) gb240 (Nat.le_of_eq hg.symm)) hb); have n1_ := Aside0.mk (below_step bel_ hb); have n2_ := Aside0.mk (hbox); have n3_ := Aside0.mk ((bsz_ hg : w.heap.size ≤ gb240)); have n4_ := Aside0.mk ((bsz_ hg : w.heap.size ≤ gb240)); clear HO_6; clear HB; have HO_6 := n0_; have HB := n1_; have BK240 := n2_; have GW240 := n3_; have GE240 := n4_; clear n0_ n1_ n2_ n3_ n4_; clear hb hbox hg) | ((with_reducible refine gate_callee (f := 23) rfl ?_); refine goesL_ (some 16) rfl rfl Tryd.func23 (by kernel_rfl) rfl #[.slice A0 l0.length c0, .int .i64 x7_1] rfl goa_ ?_; (with_reducible refine (line_Read.calls k1 _ _ l0 x7_1 t241 t242 t243 t244 t245 _ ?side1 ?side2 A4.out).mono ?_); (case side1 => repeat (first | exact (Kd.C_below HR0.out HB.out) | (with_reducible refine Kd.C_alloc ?_ _) | (with_reducible refine Kd.C_drewN ?_ _) | (with_reducible refine Kd.C_drew ?_))); (case side2 => exact HC0.out); rintro e w16 ⟨rfl, hb⟩; refine ⟨_, rfl, ?_⟩; have n0_ := Aside0.mk (Kd.R_below (by (with_reducible repeat (first | apply Kd.R_alloc | apply Kd.R_drewN | apply Kd.R_drew)); exact HO_6.out) hb); have n1_ := blb_ BK240 hb; have n2_ := Aside0.mk (below_step bel_ hb); clear HO_6; clear BK240; clear HB; have HO_6 := n0_; have BK240 := n1_; have HB := n2_; clear n0_ n1_ n2_; clear hb; have hcz17_0 : w16.cell? ⟨gb240, 0, none⟩ = some (.int .i64 0) := (blk_cell BK240.out 0).trans rfl; have hcz17_1 : w16.cell? ⟨gb240, 1, none⟩ = some (.int .i64 0) := (blk_cell BK240.out 1).trans rfl; have hcz17_2 : w16.cell? ⟨gb240, 2, none⟩ = some (.string (⟨#[]⟩ : ByteArray)) := (blk_cell BK240.out 2).trans rfl; have hfz17_0 := blk_frozen BK240.out 0; have hfz17_1 := blk_frozen BK240.out 1; have hfz17_2 := blk_frozen BK240.out 2) | ((with_reducible refine gate_builtin (b := .append) (xs := #[.tmp 24, .tmp 26]) rfl ?_); at_builtin; refine Kd.R_append k41 (w0 := w) w.heap.size rfl (.tmp 24) (.tmp 26) 77 41 (.agg #[(.int .i64 0), (.int .i64 0), (.string ⟨#[]⟩)]) 32 rfl Tryd.underlying77 info41 rfl (by decide) (by omega) u6 x6_1 (⟨t241, t242, t243⟩ : S41) [.int .i64 t241, .int .i64 t242, .string t243] (fun k_ => k_ ≠ gb240) (fun _ => False) rfl (by first | (go_simp; done) | (go_simp; rfl)) ?aP (fun _ hk => hk.elim) ?aF ?aO ?aB ?aS ?aL ?_; (case aP => exact k41_mkM _ _ _ (⟨t241, t242, t243⟩ : S41)); (case aB => exact bel_); (case aF => exact (fun k_ hk => Kd.freshB (g := gb240) (o := .cells #[.int .i64 t241, .int .i64 t242, .string t243] 41 (0, 0)) (by (with_reducible repeat (first | refine blk_drewN ?_ _ | refine blk_drew ?_ | refine blk_alloc ?_ _)); refine blk_put (cs := #[.int .i64 t241, .int .i64 t242, .string (⟨#[]⟩ : ByteArray)]) ?_ 2 _ rfl; (with_reducible repeat (first | refine blk_drewN ?_ _ | refine blk_drew ?_ | refine blk_alloc ?_ _)); refine blk_put (cs := #[.int .i64 t241, .int .i64 0, .string (⟨#[]⟩ : ByteArray)]) ?_ 1 _ rfl; (with_reducible repeat (first | refine blk_drewN ?_ _ | refine blk_drew ?_ | refine blk_alloc ?_ _)); refine blk_put (cs := #[.int .i64 0, .int .i64 0, .string (⟨#[]⟩ : ByteArray)]) ?_ 0 _ rfl; (with_reducible repeat (first | refine blk_drewN ?_ _ | refine blk_drew ?_ | refine blk_alloc ?_ _)); exact BK240.out) k_ hk)); (case aO => exact (by (with_reducible repeat (first | apply Kd.R_alloc | apply Kd.R_drewN | apply Kd.R_drew)); exact Kd.R_mono (Kd.R_far (p := ⟨gb240, 2, none⟩) (Kd.R_far (p := ⟨gb240, 1, none⟩) (Kd.R_far (p := ⟨gb240, 0, none⟩) (Kd.R_mono HO_6.out (fun k_ hk => (⟨hk, hk.2⟩ : _ ∧ k_ ≠ gb240))) (fun _ hk => hk.2) (.int .i64 t241)) (fun _ hk => hk.2) (.int .i64 t242)) (fun _ hk => hk.2) (.string t243)) (fun _ hk => hk.1.2))); (case aS => exact (below_size bel_)); (case aL => have := LMc6.out; omega); intro v247 w18 ho hb hg hat; rw [← Ny246.out] at ho; have n0_ := Aside0.mk (blk_grown (g := gb240) (o := .cells #[.int .i64 t241, .int .i64 t242, .string t243] 41 (0, 0)) (by (with_reducible repeat (first | refine blk_drewN ?_ _ | refine blk_drew ?_ | refine blk_alloc ?_ _)); refine blk_put (cs := #[.int .i64 t241, .int .i64 t242, .string (⟨#[]⟩ : ByteArray)]) ?_ 2 _ rfl; (with_reducible repeat (first | refine blk_drewN ?_ _ | refine blk_drew ?_ | refine blk_alloc ?_ _)); refine blk_put (cs := #[.int .i64 t241, .int .i64 0, .string (⟨#[]⟩ : ByteArray)]) ?_ 1 _ rfl; (with_reducible repeat (first | refine blk_drewN ?_ _ | refine blk_drew ?_ | refine blk_alloc ?_ _)); refine blk_put (cs := #[.int .i64 0, .int .i64 0, .string (⟨#[]⟩ : ByteArray)]) ?_ 0 _ rfl; (with_reducible repeat (first | refine blk_drewN ?_ _ | refine blk_drew ?_ | refine blk_alloc ?_ _)); exact BK240.out) hg (Kd.R_away HO_6.out (fun _ hk => hk.2))); have n1_ := Aside0.mk (hb); have n2_ := Aside0.mk (ho); clear BK240; clear HB; clear HO_6; have BK240 := n0_; have HB := n1_; have HO248 := n2_; clear n0_ n1_ n2_; clear ho hb hg hat; obtain ⟨Ao19, co19, eo19⟩ := Kd.R_slice HO248.out; subst eo19) | (go_at_call 78; (with_reducible refine (value_Sign.calls _ _ l0 t244 (⟨#[47]⟩ : ByteArray) true _ ?side1 ?side2 A13.out).mono ?_); (case side1 => repeat (first | exact (Kd.C_below HR0.out HB.out) | (with_reducible refine Kd.C_alloc ?_ _) | (with_reducible refine Kd.C_drewN ?_ _) | (with_reducible refine Kd.C_drew ?_))); (case side2 => exact HC0.out); rintro e w20 ⟨rfl, hb⟩; have n0_ := Aside0.mk (Kd.R_below (by (with_reducible repeat (first | apply Kd.R_alloc | apply Kd.R_drewN | apply Kd.R_drew)); exact HO248.out) hb); have n1_ := blb_ BK240 hb; have n2_ := Aside0.mk (below_step bel_ hb); clear HO248; clear BK240; clear HB; have HO248 := n0_; have BK240 := n1_; have HB := n2_; clear n0_ n1_ n2_; clear hb))
       go_roundg k1
       case measure => have := HK1.out; omega
       case rel => exact ⟨(y246), (wrap64 (t244 + 1)), rfs_, H', ⟨by have := HK1.out; omega⟩, ⟨by (with_reducible repeat (first | apply Kd.R_alloc | apply Kd.R_drewN | apply Kd.R_drew)); exact Kd.R_mono HO248.out (fun _ hk => trivial)⟩, ⟨bel_⟩⟩
      ·replace c14 := Bool.eq_false_iff.mpr c14
       subst c14
       rw [if_neg (show ¬ (false = true) by decide)] at H
       simp only [Option.some.injEq, Prod.mk.injEq] at H
       obtain ⟨rfl, rfl, rfl⟩ := H
       go_wp2_with (first | ((with_reducible refine gate_dst (N := 9) rfl ?_); refine box_event ?hg (N := 9) ?hd (cs := #[.int .i64 0, .int .i64 0, .string (⟨#[]⟩ : ByteArray)]) (t := 41) ?hr ?_; (case hd => rfl); (case hg => rfl); (case hr => first | (go_simp; done) | (go_simp; rfl)); intro gb240 hg w21 hbox hb; have n0_ := Aside0.mk (Kd.R_below (Kd.R_elderB (by (with_reducible repeat (first | apply Kd.R_alloc | apply Kd.R_drewN | apply Kd.R_drew)); exact HO_6.out) gb240 (Nat.le_of_eq hg.symm)) hb); have n1_ := Aside0.mk (below_step bel_ hb); have n2_ := Aside0.mk (hbox); have n3_ := Aside0.mk ((bsz_ hg : w.heap.size ≤ gb240)); have n4_ := Aside0.mk ((bsz_ hg : w.heap.size ≤ gb240)); clear HO_6; clear HB; have HO_6 := n0_; have HB := n1_; have BK240 := n2_; have GW240 := n3_; have GE240 := n4_; clear n0_ n1_ n2_ n3_ n4_; clear hb hbox hg) | ((with_reducible refine gate_callee (f := 23) rfl ?_); refine goesL_ (some 16) rfl rfl Tryd.func23 (by kernel_rfl) rfl #[.slice A0 l0.length c0, .int .i64 x7_1] rfl goa_ ?_; (with_reducible refine (line_Read.calls k1 _ _ l0 x7_1 t241 t242 t243 t244 t245 _ ?side1 ?side2 A4.out).mono ?_); (case side1 => repeat (first | exact (Kd.C_below HR0.out HB.out) | (with_reducible refine Kd.C_alloc ?_ _) | (with_reducible refine Kd.C_drewN ?_ _) | (with_reducible refine Kd.C_drew ?_))); (case side2 => exact HC0.out); rintro e w22 ⟨rfl, hb⟩; refine ⟨_, rfl, ?_⟩; have n0_ := Aside0.mk (Kd.R_below (by (with_reducible repeat (first | apply Kd.R_alloc | apply Kd.R_drewN | apply Kd.R_drew)); exact HO_6.out) hb); have n1_ := blb_ BK240 hb; have n2_ := Aside0.mk (below_step bel_ hb); clear HO_6; clear BK240; clear HB; have HO_6 := n0_; have BK240 := n1_; have HB := n2_; clear n0_ n1_ n2_; clear hb; have hcz23_0 : w22.cell? ⟨gb240, 0, none⟩ = some (.int .i64 0) := (blk_cell BK240.out 0).trans rfl; have hcz23_1 : w22.cell? ⟨gb240, 1, none⟩ = some (.int .i64 0) := (blk_cell BK240.out 1).trans rfl; have hcz23_2 : w22.cell? ⟨gb240, 2, none⟩ = some (.string (⟨#[]⟩ : ByteArray)) := (blk_cell BK240.out 2).trans rfl; have hfz23_0 := blk_frozen BK240.out 0; have hfz23_1 := blk_frozen BK240.out 1; have hfz23_2 := blk_frozen BK240.out 2) | ((with_reducible refine gate_builtin (b := .append) (xs := #[.tmp 24, .tmp 26]) rfl ?_); at_builtin; refine Kd.R_append k41 (w0 := w) w.heap.size rfl (.tmp 24) (.tmp 26) 77 41 (.agg #[(.int .i64 0), (.int .i64 0), (.string ⟨#[]⟩)]) 32 rfl Tryd.underlying77 info41 rfl (by decide) (by omega) u6 x6_1 (⟨t241, t242, t243⟩ : S41) [.int .i64 t241, .int .i64 t242, .string t243] (fun k_ => k_ ≠ gb240) (fun _ => False) rfl (by first | (go_simp; done) | (go_simp; rfl)) ?aP (fun _ hk => hk.elim) ?aF ?aO ?aB ?aS ?aL ?_; (case aP => exact k41_mkM _ _ _ (⟨t241, t242, t243⟩ : S41)); (case aB => exact bel_); (case aF => exact (fun k_ hk => Kd.freshB (g := gb240) (o := .cells #[.int .i64 t241, .int .i64 t242, .string t243] 41 (0, 0)) (by (with_reducible repeat (first | refine blk_drewN ?_ _ | refine blk_drew ?_ | refine blk_alloc ?_ _)); refine blk_put (cs := #[.int .i64 t241, .int .i64 t242, .string (⟨#[]⟩ : ByteArray)]) ?_ 2 _ rfl; (with_reducible repeat (first | refine blk_drewN ?_ _ | refine blk_drew ?_ | refine blk_alloc ?_ _)); refine blk_put (cs := #[.int .i64 t241, .int .i64 0, .string (⟨#[]⟩ : ByteArray)]) ?_ 1 _ rfl; (with_reducible repeat (first | refine blk_drewN ?_ _ | refine blk_drew ?_ | refine blk_alloc ?_ _)); refine blk_put (cs := #[.int .i64 0, .int .i64 0, .string (⟨#[]⟩ : ByteArray)]) ?_ 0 _ rfl; (with_reducible repeat (first | refine blk_drewN ?_ _ | refine blk_drew ?_ | refine blk_alloc ?_ _)); exact BK240.out) k_ hk)); (case aO => exact (by (with_reducible repeat (first | apply Kd.R_alloc | apply Kd.R_drewN | apply Kd.R_drew)); exact Kd.R_mono (Kd.R_far (p := ⟨gb240, 2, none⟩) (Kd.R_far (p := ⟨gb240, 1, none⟩) (Kd.R_far (p := ⟨gb240, 0, none⟩) (Kd.R_mono HO_6.out (fun k_ hk => (⟨hk, hk.2⟩ : _ ∧ k_ ≠ gb240))) (fun _ hk => hk.2) (.int .i64 t241)) (fun _ hk => hk.2) (.int .i64 t242)) (fun _ hk => hk.2) (.string t243)) (fun _ hk => hk.1.2))); (case aS => exact (below_size bel_)); (case aL => have := LMc6.out; omega); intro v247 w24 ho hb hg hat; rw [← Ny246.out] at ho; have n0_ := Aside0.mk (blk_grown (g := gb240) (o := .cells #[.int .i64 t241, .int .i64 t242, .string t243] 41 (0, 0)) (by (with_reducible repeat (first | refine blk_drewN ?_ _ | refine blk_drew ?_ | refine blk_alloc ?_ _)); refine blk_put (cs := #[.int .i64 t241, .int .i64 t242, .string (⟨#[]⟩ : ByteArray)]) ?_ 2 _ rfl; (with_reducible repeat (first | refine blk_drewN ?_ _ | refine blk_drew ?_ | refine blk_alloc ?_ _)); refine blk_put (cs := #[.int .i64 t241, .int .i64 0, .string (⟨#[]⟩ : ByteArray)]) ?_ 1 _ rfl; (with_reducible repeat (first | refine blk_drewN ?_ _ | refine blk_drew ?_ | refine blk_alloc ?_ _)); refine blk_put (cs := #[.int .i64 0, .int .i64 0, .string (⟨#[]⟩ : ByteArray)]) ?_ 0 _ rfl; (with_reducible repeat (first | refine blk_drewN ?_ _ | refine blk_drew ?_ | refine blk_alloc ?_ _)); exact BK240.out) hg (Kd.R_away HO_6.out (fun _ hk => hk.2))); have n1_ := Aside0.mk (hb); have n2_ := Aside0.mk (ho); clear BK240; clear HB; clear HO_6; have BK240 := n0_; have HB := n1_; have HO248 := n2_; clear n0_ n1_ n2_; clear ho hb hg hat; obtain ⟨Ao25, co25, eo25⟩ := Kd.R_slice HO248.out; subst eo25) | (go_at_call 78; (with_reducible refine (value_Sign.calls _ _ l0 t244 (⟨#[47]⟩ : ByteArray) false _ ?side1 ?side2 A13.out).mono ?_); (case side1 => repeat (first | exact (Kd.C_below HR0.out HB.out) | (with_reducible refine Kd.C_alloc ?_ _) | (with_reducible refine Kd.C_drewN ?_ _) | (with_reducible refine Kd.C_drew ?_))); (case side2 => exact HC0.out); rintro e w26 ⟨rfl, hb⟩; have n0_ := Aside0.mk (Kd.R_below (by (with_reducible repeat (first | apply Kd.R_alloc | apply Kd.R_drewN | apply Kd.R_drew)); exact HO248.out) hb); have n1_ := blb_ BK240 hb; have n2_ := Aside0.mk (below_step bel_ hb); clear HO248; clear BK240; clear HB; have HO248 := n0_; have BK240 := n1_; have HB := n2_; clear n0_ n1_ n2_; clear hb))
       go_ret3
       exact ⟨_, rsl_, by (with_reducible repeat (first | apply Kd.R_alloc | apply Kd.R_drewN | apply Kd.R_drew)); exact Kd.R_mono HO248.out (fun _ hk => trivial), bel_⟩
    ·rw [if_neg c6] at H
     exact absurd H (by simp)
   ·rw [if_neg c5] at H
    have c5b0 : (t245 == 0) = false := beq_eq_false_iff_ne.mpr c5
    have c5b1 : (t245 != 0) = true := bne_iff_ne.mpr c5
    simp only [Option.some.injEq, Prod.mk.injEq] at H
    obtain ⟨rfl, rfl, rfl⟩ := H
    go_wp2_with (first | ((with_reducible refine gate_dst (N := 9) rfl ?_); refine box_event ?hg (N := 9) ?hd (cs := #[.int .i64 0, .int .i64 0, .string (⟨#[]⟩ : ByteArray)]) (t := 41) ?hr ?_; (case hd => rfl); (case hg => rfl); (case hr => first | (go_simp; done) | (go_simp; rfl)); intro gb240 hg w27 hbox hb; have n0_ := Aside0.mk (Kd.R_below (Kd.R_elderB (by (with_reducible repeat (first | apply Kd.R_alloc | apply Kd.R_drewN | apply Kd.R_drew)); exact HO_6.out) gb240 (Nat.le_of_eq hg.symm)) hb); have n1_ := Aside0.mk (below_step bel_ hb); have n2_ := Aside0.mk (hbox); have n3_ := Aside0.mk ((bsz_ hg : w.heap.size ≤ gb240)); have n4_ := Aside0.mk ((bsz_ hg : w.heap.size ≤ gb240)); clear HO_6; clear HB; have HO_6 := n0_; have HB := n1_; have BK240 := n2_; have GW240 := n3_; have GE240 := n4_; clear n0_ n1_ n2_ n3_ n4_; clear hb hbox hg) | ((with_reducible refine gate_callee (f := 23) rfl ?_); refine goesL_ (some 16) rfl rfl Tryd.func23 (by kernel_rfl) rfl #[.slice A0 l0.length c0, .int .i64 x7_1] rfl goa_ ?_; (with_reducible refine (line_Read.calls k1 _ _ l0 x7_1 t241 t242 t243 t244 t245 _ ?side1 ?side2 A4.out).mono ?_); (case side1 => repeat (first | exact (Kd.C_below HR0.out HB.out) | (with_reducible refine Kd.C_alloc ?_ _) | (with_reducible refine Kd.C_drewN ?_ _) | (with_reducible refine Kd.C_drew ?_))); (case side2 => exact HC0.out); rintro e w28 ⟨rfl, hb⟩; refine ⟨_, rfl, ?_⟩; have n0_ := Aside0.mk (Kd.R_below (by (with_reducible repeat (first | apply Kd.R_alloc | apply Kd.R_drewN | apply Kd.R_drew)); exact HO_6.out) hb); have n1_ := blb_ BK240 hb; have n2_ := Aside0.mk (below_step bel_ hb); clear HO_6; clear BK240; clear HB; have HO_6 := n0_; have BK240 := n1_; have HB := n2_; clear n0_ n1_ n2_; clear hb; have hcz29_0 : w28.cell? ⟨gb240, 0, none⟩ = some (.int .i64 0) := (blk_cell BK240.out 0).trans rfl; have hcz29_1 : w28.cell? ⟨gb240, 1, none⟩ = some (.int .i64 0) := (blk_cell BK240.out 1).trans rfl; have hcz29_2 : w28.cell? ⟨gb240, 2, none⟩ = some (.string (⟨#[]⟩ : ByteArray)) := (blk_cell BK240.out 2).trans rfl; have hfz29_0 := blk_frozen BK240.out 0; have hfz29_1 := blk_frozen BK240.out 1; have hfz29_2 := blk_frozen BK240.out 2))
    go_ret3
    exact ⟨_, rsl_, by first | exact Kd.R_nil _ _ _ _ _ | exact Kd.N_nil _ _ _ _ _ | exact Kd.V_nil _ _ _ _ _ | exact Kd.Q_nil _ _ _ _ _ | exact Kd.S_nil _ _ _ _ _, bel_⟩

end Go.Proofs.YtofdhdafabmhmaaDoor.PLa
end
section
namespace Go.Proofs.YtofdhdafabmhmaaDoor.Giv
open Go.RowKit Go.Proofs.YtofdhdafabmhmaaDoorW.PrintWords Go.Proofs.YtofdhdafabmhmaaDoorW.PrintLast Go.Proofs.YtofdhdafabmhmaaDoorW.PrintMore Go.Proofs.YtofdhdafabmhmaaDoor.PLa
open Go.Proofs.YtofdhdafabmhmaaDoor.Opn Go.BigFrame
def line_Pair.more (x : List S41) : Option (List S41) := if x.length = 1 then (line_other.f (rd_T41 x 0).f0 (rd_T41 x 0).f1 (rd_T41 x 0).f2).bind fun t => some (x ++ [⟨t.1, t.2.1, t.2.2⟩]) else some x
def line_Pair.f (k : Nat) (l0 : List S67) (a1 : Int) : Option (Int × Int × ByteArray × Int × Int × ByteArray × Int × Int) :=
  (line_lines.f k l0 a1 2).bind fun r => if r.2.2 = 0 then (line_Pair.more r.1).bind fun x => if x.length = 2 then some ((rd_T41 x 0).f0, (rd_T41 x 0).f1, (rd_T41 x 0).f2, (rd_T41 x 1).f0, (rd_T41 x 1).f1, (rd_T41 x 1).f2, r.2.1, 0) else none
    else some (0, 0, ⟨#[]⟩, 0, 0, ⟨#[]⟩, r.2.1, r.2.2)
theorem line_Pair.mono : ∀ l0 a1 k, LeO (line_Pair.f k l0 a1) (line_Pair.f (k + 1) l0 a1) := by
  intro l0 a1 k
  unfold line_Pair.f
  exact LeO.bind (line_lines.mono _ _ _ _) (fun r => LeO.refl _)
namespace line_Pair
structure Sp (w w1 : World) (b4 b5 : Nat) (x0 x1 : Int) (x2 : ByteArray) (y0 y1 : Int) (y2 : ByteArray) : Prop where
  s : w1.heap[b4]? = some (.cells #[.int .i64 x0, .int .i64 x1, .string x2] 41 (0, 0))
  e : w1.heap[b5]? = some (.cells #[.int .i64 y0, .int .i64 y1, .string y2] 41 (0, 0))
  b : Below w.heap.size w w1
  o0 : w.heap.size ≤ b4
  o1 : b4 < b5
section
variable {w w1 w2 : World} {b4 b5 : Nat} {x0 x1 y0 y1 : Int} {x2 y2 : ByteArray}
theorem Sp.below (h : Sp w w1 b4 b5 x0 x1 x2 y0 y1 y2) (hb : Below w1.heap.size w1 w2) : Sp w w2 b4 b5 x0 x1 x2 y0 y1 y2 := ⟨blk_below h.s hb, blk_below h.e hb, below_step h.b hb, h.o0, h.o1⟩
theorem Sp.drewN (h : Sp w w1 b4 b5 x0 x1 x2 y0 y1 y2) (i : Nat) : Sp w (w1.drewN i) b4 b5 x0 x1 x2 y0 y1 y2 := h.below (pw_below_drewN (Below.refl _ _) i)
theorem Sp.drew (h : Sp w w1 b4 b5 x0 x1 x2 y0 y1 y2) : Sp w w1.drew b4 b5 x0 x1 x2 y0 y1 y2 := h.below (below_drew (Below.refl _ _))
theorem Sp.alloc (h : Sp w w1 b4 b5 x0 x1 x2 y0 y1 y2) (o : Obj) : Sp w (w1.alloc o) b4 b5 x0 x1 x2 y0 y1 y2 := h.below (below_alloc (Below.refl _ _) _)
theorem Sp.grown (h : Sp w w1 b4 b5 x0 x1 x2 y0 y1 y2) {row : Option Nat} (hg : w1.grownBy w2 row) (n0 : some b4 ≠ row) (n1 : some b5 ≠ row) (hb : Below w.heap.size w w2) : Sp w w2 b4 b5 x0 x1 x2 y0 y1 y2 := ⟨blk_grown h.s hg n0, blk_grown h.e hg n1, hb, h.o0, h.o1⟩
theorem Sp.sets (h : Sp w w1 b4 b5 x0 x1 x2 y0 y1 y2) (u0 u1 : Int) (u2 : ByteArray) : Sp w (((w1.setCell ⟨b4, 0, none⟩ (.int .i64 u0)).setCell ⟨b4, 1, none⟩ (.int .i64 u1)).setCell ⟨b4, 2, none⟩ (.string u2)) b4 b5 u0 u1 u2 y0 y1 y2 := by
  have n : b5 ≠ b4 := by have := h.o1; omega
  exact ⟨blk_put (blk_put (blk_put h.s 0 _ rfl) 1 _ rfl) 2 _ rfl, blk_far (blk_far (blk_far h.e n _) n _) n _, below_set (below_set (below_set h.b h.o0) h.o0) h.o0, h.o0, h.o1⟩
theorem Sp.sete (h : Sp w w1 b4 b5 x0 x1 x2 y0 y1 y2) (u0 u1 : Int) (u2 : ByteArray) : Sp w (((w1.setCell ⟨b5, 0, none⟩ (.int .i64 u0)).setCell ⟨b5, 1, none⟩ (.int .i64 u1)).setCell ⟨b5, 2, none⟩ (.string u2)) b4 b5 x0 x1 x2 u0 u1 u2 := by
  have n : b4 ≠ b5 := by have := h.o1; omega
  have m : w.heap.size ≤ b5 := by have := h.o1; have := h.o0; omega
  exact ⟨blk_far (blk_far (blk_far h.s n _) n _) n _, blk_put (blk_put (blk_put h.e 0 _ rfl) 1 _ rfl) 2 _ rfl, below_set (below_set (below_set h.b m) m) m, h.o0, h.o1⟩
theorem Sp.c (h : Sp w w1 b4 b5 x0 x1 x2 y0 y1 y2) : w1.cell? ⟨b4, 0, none⟩ = some (.int .i64 x0) ∧ w1.cell? ⟨b4, 1, none⟩ = some (.int .i64 x1) ∧ w1.cell? ⟨b4, 2, none⟩ = some (.string x2) ∧ w1.cell? ⟨b5, 0, none⟩ = some (.int .i64 y0) ∧ w1.cell? ⟨b5, 1, none⟩ = some (.int .i64 y1) ∧ w1.cell? ⟨b5, 2, none⟩ = some (.string y2) :=
  ⟨(blk_cell h.s 0).trans rfl, (blk_cell h.s 1).trans rfl, (blk_cell h.s 2).trans rfl, (blk_cell h.e 0).trans rfl, (blk_cell h.e 1).trans rfl, (blk_cell h.e 2).trans rfl⟩
theorem Sp.f (h : Sp w w1 b4 b5 x0 x1 x2 y0 y1 y2) : w1.frozen? ⟨b4, 0, none⟩ = false ∧ w1.frozen? ⟨b4, 1, none⟩ = false ∧ w1.frozen? ⟨b4, 2, none⟩ = false ∧ w1.frozen? ⟨b5, 0, none⟩ = false ∧ w1.frozen? ⟨b5, 1, none⟩ = false ∧ w1.frozen? ⟨b5, 2, none⟩ = false :=
  ⟨blk_frozen h.s 0, blk_frozen h.s 1, blk_frozen h.s 2, blk_frozen h.e 0, blk_frozen h.e 1, blk_frozen h.e 2⟩
theorem Sp.ne (h : Sp w w1 b4 b5 x0 x1 x2 y0 y1 y2) : b4 ≠ b5 ∧ b5 ≠ b4 := by have := h.o1; omega
/-- A row of the call's own, but for these two blocks. -/
def Row (w w1 : World) (b4 b5 : Nat) (v : Value) (x : List S41) : Prop := Kd.R k41 41 w1 w.heap.size (fun k => k ≠ b4 ∧ k ≠ b5) v x
theorem Row.sets {v : Value} {x : List S41} (h : Row w w1 b4 b5 v x) (u0 u1 : Int) (u2 : ByteArray) : Row w (((w1.setCell ⟨b4, 0, none⟩ (.int .i64 u0)).setCell ⟨b4, 1, none⟩ (.int .i64 u1)).setCell ⟨b4, 2, none⟩ (.string u2)) b4 b5 v x :=
  Kd.R_far (Kd.R_far (Kd.R_far h (fun _ hk => hk.1) _) (fun _ hk => hk.1) _) (fun _ hk => hk.1) _
theorem Row.sete {v : Value} {x : List S41} (h : Row w w1 b4 b5 v x) (u0 u1 : Int) (u2 : ByteArray) : Row w (((w1.setCell ⟨b5, 0, none⟩ (.int .i64 u0)).setCell ⟨b5, 1, none⟩ (.int .i64 u1)).setCell ⟨b5, 2, none⟩ (.string u2)) b4 b5 v x :=
  Kd.R_far (Kd.R_far (Kd.R_far h (fun _ hk => hk.2) _) (fun _ hk => hk.2) _) (fun _ hk => hk.2) _
end
theorem at_ {P : Program} {id : Nat} {ops : Array Oper} {b : Bool} {Q : Exit → Act → World → Prop} {a : Act} {W : World} (h : ∀ w', w' = W → (Code.region id ops b).wp P Q a w') : (Code.region id ops b).wp P Q a W := h W rfl
def Pair.T3 : Bool × List (List Nat × List Nat) := (true, [([], []), ([], []), ([], []), ([], []), ([0, 0], [0]), ([1, 4, 0, 1, 4], [1]), ([2, 5, 0, 1, 2, 4, 5], [2]), ([3, 6, 0, 1, 2, 3, 4, 5, 6], [3])])
def Pair.B3 : List Nat := [0, 0, 0, 0, 1, 19, 55, 127]
theorem Pair.tab3 : rtab .any (opsOf Tryd.f25 3) = Pair.T3 := by kernel_rfl
theorem Pair.bits3 : waitsOk Pair.T3.2 Pair.B3 = true := by kernel_rfl
def Pair.T6 : Bool × List (List Nat × List Nat) := (true, [([], []), ([0], [0]), ([1], [1]), ([], []), ([3], [3]), ([4], [4]), ([], []), ([2, 0, 1, 2], [2]), ([5, 7, 0, 1, 2, 3, 4, 5, 7], [5]), ([6, 8, 0, 1, 2, 3, 4, 5, 6, 7, 8], [6]), ([9, 0, 1, 2, 3, 4, 5, 6, 7, 8, 9], [])])
def Pair.B6 : List Nat := [0, 1, 3, 0, 8, 24, 0, 7, 191, 511, 1023]
theorem Pair.tab6 : rtab .any (opsOf Tryd.f25 6) = Pair.T6 := by kernel_rfl
theorem Pair.bits6 : waitsOk Pair.T6.2 Pair.B6 = true := by kernel_rfl
set_option maxHeartbeats 16000000 in
set_option maxRecDepth 100000 in
theorem calls (k : Nat) (A0 : Option Addr) (c0 : Nat) (l0 : List S67) (a1 r1 r2 : Int) (r3 : ByteArray) (r4 r5 : Int) (r6 : ByteArray) (r7 r8 : Int) (w : World) (hr0 : Kd.C k67 w A0 l0.length l0) (hc0 : l0.length ≤ c0) (h : line_Pair.f k l0 a1 = some (r1, r2, r3, r4, r5, r6, r7, r8)) :
    Calls Tryd.prog 25 #[.slice A0 l0.length c0, .int .i64 a1] w fun e w' => e = .returned (.tuple #[.agg #[.int .i64 r1, .int .i64 r2, .string r3], .agg #[.int .i64 r4, .int .i64 r5, .string r6], .int .i64 r7, .int .i64 r8]) ∧ Below w.heap.size w w' := by
  have hu2 := Tryd.underlying41
  have HR := Aside0.mk hr0
  have HC := Aside0.mk hc0
  have HB := Aside0.mk (Below.refl w.heap.size w)
  unfold line_Pair.f at h
  replace h := Option.bind_eq_some_iff.mp h
  obtain ⟨⟨t1, t2, t3⟩, hk, h⟩ := h
  have A1 := Aside0.mk hk
  clear hk hr0 hc0
  dsimp only at h
  by_cases e0 : t3 = 0
  · rw [if_pos e0] at h
    have q0 : (t3 != 0) = false := bne_eq_false_iff_eq.2 e0
    clear e0
    replace h := Option.bind_eq_some_iff.mp h
    obtain ⟨x, hm, h⟩ := h
    by_cases e1 : x.length = 2
    · rw [if_pos e1] at h
      simp only [Option.some.injEq, Prod.mk.injEq] at h
      obtain ⟨rfl, rfl, rfl, rfl, rfl, rfl, rfl, rfl⟩ := h
      have E1 := Aside0.mk e1
      have HM := Aside0.mk hm
      clear e1 hm
      go_enter Tryd.func25, Tryd.ntmps25
      go_upto_if 24 with (first | go_step3 | ((with_reducible refine gate_dst (N := 4) rfl ?_); refine box_event ?hg (N := 4) ?hd (cs := #[.int .i64 0, .int .i64 0, .string (⟨#[]⟩ : ByteArray)]) (t := 41) ?hr ?_; (case hd => rfl); (case hg => rfl); (case hr => first | (go_simp; done) | (go_simp; rfl)); intro b4 hg w2 hbox hb; have n0_ := Aside0.mk (below_step bel_ hb); have BL := Aside0.mk hbox; have OL := Aside0.mk ((bsz_ hg : w.heap.size ≤ b4)); clear HB; have HB := n0_; clear n0_ hb hbox hg) | ((with_reducible refine gate_dst (N := 5) rfl ?_); refine box_event ?hg (N := 5) ?hd (cs := #[.int .i64 0, .int .i64 0, .string (⟨#[]⟩ : ByteArray)]) (t := 41) ?hr ?_; (case hd => rfl); (case hg => rfl); (case hr => first | (go_simp; done) | (go_simp; rfl)); intro b5 hg w3 hbox hb; have HX : Aside0 (Sp w w3 b4 b5 0 0 ⟨#[]⟩ 0 0 ⟨#[]⟩) := ⟨⟨(blb_ BL hb).out, hbox, below_step bel_ hb, OL.out, line_Read.blt_ BL hg⟩⟩; clear HB BL OL hb hbox hg) | ((with_reducible refine gate_callee (f := 49) rfl ?_); refine goesL_ (some 12) rfl rfl Tryd.func49 (by kernel_rfl) rfl #[.slice A0 l0.length c0, .int .i64 a1, .int .i64 2] rfl goa_ ?_; (with_reducible refine (line_lines.calls k _ _ l0 a1 2 t1 t2 t3 _ ?side1 ?side2 A1.out).mono ?_); (case side1 => exact Kd.C_below HR.out (show Sp w _ b4 b5 0 0 ⟨#[]⟩ 0 0 ⟨#[]⟩ by repeat (first | (with_reducible first | exact HX.out | apply Sp.drewN | apply Sp.drew | apply Sp.alloc))).b); (case side2 => exact HC.out); rintro e w10 ⟨v, rfl, ho0, hb⟩; refine ⟨_, rfl, ?_⟩; have HO : Aside0 (Row w w10 b4 b5 v t1) := ⟨Kd.R_mono (Kd.R_lower (Kd.R_newB (Kd.R_newB ho0 (g := b4) (show Sp w _ b4 b5 0 0 ⟨#[]⟩ 0 0 ⟨#[]⟩ by repeat (first | (with_reducible first | exact HX.out | apply Sp.drewN | apply Sp.drew | apply Sp.alloc))).s) (g := b5) (show Sp w _ b4 b5 0 0 ⟨#[]⟩ 0 0 ⟨#[]⟩ by repeat (first | (with_reducible first | exact HX.out | apply Sp.drewN | apply Sp.drew | apply Sp.alloc))).e) (below_size (show Sp w _ b4 b5 0 0 ⟨#[]⟩ 0 0 ⟨#[]⟩ by repeat (first | (with_reducible first | exact HX.out | apply Sp.drewN | apply Sp.drew | apply Sp.alloc))).b)) (fun _ hk => ⟨hk.1.2, hk.2⟩)⟩; have n0_ := Aside0.mk (Sp.below (show Sp w _ b4 b5 0 0 ⟨#[]⟩ 0 0 ⟨#[]⟩ by repeat (first | (with_reducible first | exact HX.out | apply Sp.drewN | apply Sp.drew | apply Sp.alloc))) hb); clear HX hb ho0; have HX := n0_; clear n0_; obtain ⟨Ao, cv, eo⟩ := Kd.R_slice HO.out; subst eo; obtain ⟨hc0, hc1, hc2, hc3, hc4, hc5⟩ := HX.out.c; obtain ⟨hz0, hz1, hz2, hz3, hz4, hz5⟩ := HX.out.f; obtain ⟨hn0, hn1⟩ := HX.out.ne))
      go_cut [8] (fun v8 wc => ∃ (ad : Addr) (cx : Nat), v8 = .slice (some ad) x.length cx ∧ Aside0 (Sp w wc b4 b5 0 0 ⟨#[]⟩ 0 0 ⟨#[]⟩) ∧ Aside0 (Row w wc b4 b5 (.slice (some ad) x.length cx) x))
      case first =>
        have hm := HM.out
        clear HM
        have hn : 0 < t1.length := by
          unfold line_Pair.more at hm
          by_cases e2 : t1.length = 1
          · omega
          · rw [if_neg e2] at hm
            have := E1.out
            rw [← Option.some.inj hm] at this
            omega
        obtain ⟨ad, cv2, ev⟩ := Kd.R_slice1 HO.out hn
        cases ev
        unfold line_Pair.more at hm
        by_cases e2 : t1.length = 1
        · rw [if_pos e2] at hm
          replace hm := Option.bind_eq_some_iff.mp hm
          obtain ⟨⟨u1, u2, u3⟩, ho, hm⟩ := hm
          have A2 := Aside0.mk ho
          obtain rfl := Option.some.inj hm
          have c5b0 : decide ((t1.length : Int) < 2) = true := decide_eq_true (by omega)
          have c5b1 : decide (t1.length < 2) = true := decide_eq_true (by omega)
          obtain ⟨_, e0, hx0, hx1, hx2⟩ := at_T41 (Kd.R_reads' HO.out).2.2 0 (by omega) (by omega)
          cases e0
          have qi : (0 < t1.length) = True := eq_true hn
          have E2 := Aside0.mk e2
          clear ho hn e2
          (try rw [show ((0 : Int)).toNat = 0 from rfl] at hx0 hx1 hx2)
          (try rw [show 0 * 3 = 0 from rfl] at hx0 hx1 hx2)
          (try rw [Addr.add_zero'] at hx0 hx1 hx2)
          (first | rw [c5b0] | rw [c5b1] | (simp only [i64_w, i32_w]; rw [c5b0]) | skip)
          go_wp2_with (first | go_step3 | ((with_reducible refine gate_callee (f := 48) rfl ?_); refine goesL_ (some 29) rfl rfl Tryd.func48 (by kernel_rfl) rfl #[.agg #[.int .i64 (rd_T41 t1 0).f0, .int .i64 (rd_T41 t1 0).f1, .string (rd_T41 t1 0).f2]] rfl goa_ ?_; (with_reducible refine (line_other.calls _ _ _ u1 u2 u3 _ A2.out).mono ?_); rintro e w13 ⟨rfl, hb⟩; refine ⟨_, rfl, ?_⟩; have n0_ := Aside0.mk (Sp.below (show Sp w _ b4 b5 0 0 ⟨#[]⟩ 0 0 ⟨#[]⟩ by repeat (first | (with_reducible first | exact HX.out | apply Sp.drewN | apply Sp.drew | apply Sp.alloc))) hb); have n1_ : Aside0 (Row w w13 b4 b5 (.slice (some ad) t1.length cv) t1) := ⟨Kd.R_below (by (with_reducible repeat (first | apply Kd.R_alloc | apply Kd.R_drewN | apply Kd.R_drew)); exact HO.out) hb⟩; clear HX HO hb; have HX := n0_; have HO := n1_; clear n0_ n1_) | ((with_reducible refine gate_builtin (b := .append) (xs := #[.tmp 25, .tmp 30]) rfl ?_); at_builtin; refine Kd.R_append k41 (w0 := w) w.heap.size rfl (.tmp 25) (.tmp 30) 77 41 (.agg #[(.int .i64 0), (.int .i64 0), (.string ⟨#[]⟩)]) 32 rfl Tryd.underlying77 info41 rfl (by decide) (by omega) (.slice (some ad) t1.length cv) t1 (⟨u1, u2, u3⟩ : S41) [.int .i64 u1, .int .i64 u2, .string u3] (fun k => k ≠ b4 ∧ k ≠ b5) (fun _ => False) rfl rfl ?aP (fun _ hk => hk.elim) ?aF ?aO ?aB ?aS ?aL ?_; (case aP => exact k41_mkM _ _ _ (⟨u1, u2, u3⟩ : S41)); (case aB => exact (Sp.b (show Sp w _ b4 b5 0 0 ⟨#[]⟩ 0 0 ⟨#[]⟩ by repeat (first | (with_reducible first | exact HX.out | apply Sp.drewN | apply Sp.drew | apply Sp.alloc))))); (case aF => exact (fun k hk => by have := blk_lt (Sp.s (show Sp w _ b4 b5 0 0 ⟨#[]⟩ 0 0 ⟨#[]⟩ by repeat (first | (with_reducible first | exact HX.out | apply Sp.drewN | apply Sp.drew | apply Sp.alloc)))); have := blk_lt (Sp.e (show Sp w _ b4 b5 0 0 ⟨#[]⟩ 0 0 ⟨#[]⟩ by repeat (first | (with_reducible first | exact HX.out | apply Sp.drewN | apply Sp.drew | apply Sp.alloc)))); exact ⟨by omega, by omega⟩)); (case aO => exact (by (with_reducible repeat (first | apply Kd.R_alloc | apply Kd.R_drewN | apply Kd.R_drew)); exact HO.out)); (case aS => exact (below_size (Sp.b (show Sp w _ b4 b5 0 0 ⟨#[]⟩ 0 0 ⟨#[]⟩ by repeat (first | (with_reducible first | exact HX.out | apply Sp.drewN | apply Sp.drew | apply Sp.alloc)))))); (case aL => have := E2.out; omega); intro v2 w14 ho hb hg hat; have HG := Aside0.mk (HO.out.1 ad.block rfl); have n0_ := Aside0.mk (Sp.grown (show Sp w _ b4 b5 0 0 ⟨#[]⟩ 0 0 ⟨#[]⟩ by repeat (first | (with_reducible first | exact HX.out | apply Sp.drewN | apply Sp.drew | apply Sp.alloc))) hg (fun e => HG.out.1 (Option.some.inj e).symm) (fun e => HG.out.2 (Option.some.inj e).symm) hb); clear HX HO; have HX := n0_; have HO : Aside0 (Row w w14 b4 b5 v2 (t1 ++ [⟨u1, u2, u3⟩])) := ⟨ho⟩; clear n0_ ho hb hg hat HG))
          have hl : (t1 ++ [(⟨u1, u2, u3⟩ : S41)]).length = t1.length + 1 := by rw [List.length_append, List.length_singleton]
          obtain ⟨ad2, cx, rfl⟩ := Kd.R_slice1 HO.out (by rw [hl]; omega)
          go_meet
          case rel => exact ⟨ad2, cx, rfl, HX, HO⟩
        · rw [if_neg e2] at hm
          obtain rfl := Option.some.inj hm
          have c5b0 : decide ((t1.length : Int) < 2) = false := decide_eq_false (by have := E1.out; omega)
          have c5b1 : decide (t1.length < 2) = false := decide_eq_false (by have := E1.out; omega)
          clear hn e2
          (first | rw [c5b0] | rw [c5b1] | (simp only [i64_w, i32_w]; rw [c5b0]) | skip)
          go_wp2_with (first | go_step3)
          go_meet
          case rel => exact ⟨ad, cv, rfl, ⟨(show Sp w _ b4 b5 0 0 ⟨#[]⟩ 0 0 ⟨#[]⟩ by repeat (first | (with_reducible first | exact HX.out | apply Sp.drewN | apply Sp.drew | apply Sp.alloc)))⟩, ⟨(by (with_reducible repeat (first | apply Kd.R_alloc | apply Kd.R_drewN | apply Kd.R_drew)); exact HO.out)⟩⟩
      case rest =>
        clear HX HO HM
        obtain ⟨ad, cx, rfl, HX, HO⟩ := hcut
        have qx0 : (0 < x.length) = True := eq_true (by have := E1.out; omega)
        have qx1 : (1 < x.length) = True := eq_true (by have := E1.out; omega)
        go_wp2_with (first | go_step3)
        refine at_ (fun w4 hw4 => ?_)
        have HX4 : Aside0 (Sp w w4.drew b4 b5 0 0 ⟨#[]⟩ 0 0 ⟨#[]⟩) := ⟨Sp.drew (by rw [hw4]; exact (show Sp w _ b4 b5 0 0 ⟨#[]⟩ 0 0 ⟨#[]⟩ by repeat (first | (with_reducible first | exact HX.out | apply Sp.drewN | apply Sp.drew | apply Sp.alloc))))⟩
        have HO4 : Aside0 (Row w w4.drew b4 b5 (.slice (some ad) x.length cx) x) := ⟨Kd.R_drew (by rw [hw4]; exact (by (with_reducible repeat (first | apply Kd.R_alloc | apply Kd.R_drewN | apply Kd.R_drew)); exact HO.out))⟩
        clear hw4 HX HO
        have hx2 := E1.out
        refine start_ (n := 11) (S := (fun w' => Kd.C k41 w' (some ad) x.length x)) (ds := []) #[false, false, false, false, false, false, false, false, false, false, false] (by kernel_rfl) rfl rfl (Kd.R_reads' HO4.out).2.2 (fun hHeld => ?_)
        refine with_tabW Pair.tab6 Pair.bits6 (fun HT_ HW_ => ?_)
        generalize w4.drew = w5 at HX4 HO4 hHeld ⊢
        refine pus_ 0 (some 32) #[true, false, false, false, false, false, false, false, false, false, false] rfl rfl HT_.out ?_
        refine pus_ 1 (some 33) #[true, true, false, false, false, false, false, false, false, false, false] rfl rfl HT_.out ?_
        refine take_ (i := 2) (N := (some 34)) (v := ?_) (a' := ?_) #[true, true, true, false, false, false, false, false, false, false, false] rfl rfl (take_ofW HT_.out HW_.out (by kernel_rfl)) (fun _ _ _ h => h) (Or.inl ⟨by rfl, ?_⟩) hHeld ?_ ?_
        rotate_left
        ·rintro w' hS
         obtain ⟨_, e0, h0, h1, h2⟩ := at_T41 hS 0 (by omega) (by omega)
         cases e0
         (try rw [show ((0 : Int)).toNat = 0 from rfl] at h0 h1 h2)
         (try rw [show 0 * 3 = 0 from rfl] at h0 h1 h2)
         (try rw [Addr.add_zero'] at h0 h1 h2)
         (try simp only [Addr.add, show ((1 : Int)).toNat * 3 = 3 from rfl, show ((3 : Nat) = 0) = False from eq_false (by decide), if_false] at h0 h1 h2)
         go_simp
         with_reducible rfl
        rotate_left
        ·simp only [Act.put, List.setIfInBounds_toArray, List.set_cons_zero, List.set_cons_succ, i64_w, i32_w]
         rfl
        refine pus_ 3 (some 35) #[true, true, true, true, false, false, false, false, false, false, false] rfl rfl HT_.out ?_
        refine pus_ 4 (some 36) #[true, true, true, true, true, false, false, false, false, false, false] rfl rfl HT_.out ?_
        refine take_ (i := 5) (N := (some 37)) (v := ?_) (a' := ?_) #[true, true, true, true, true, true, false, false, false, false, false] rfl rfl (take_ofW HT_.out HW_.out (by kernel_rfl)) (fun _ _ _ h => h) (Or.inl ⟨by rfl, ?_⟩) hHeld ?_ ?_
        rotate_left
        ·rintro w' hS
         obtain ⟨_, e0, h0, h1, h2⟩ := at_T41 hS 1 (by omega) (by omega)
         cases e0
         (try rw [show ((0 : Int)).toNat = 0 from rfl] at h0 h1 h2)
         (try rw [show 0 * 3 = 0 from rfl] at h0 h1 h2)
         (try rw [Addr.add_zero'] at h0 h1 h2)
         (try simp only [Addr.add, show ((1 : Int)).toNat * 3 = 3 from rfl, show ((3 : Nat) = 0) = False from eq_false (by decide), if_false] at h0 h1 h2)
         go_simp
         with_reducible rfl
        rotate_left
        ·simp only [Act.put, List.setIfInBounds_toArray, List.set_cons_zero, List.set_cons_succ, i64_w, i32_w]
         rfl
        refine pus_ 6 (some 38) #[true, true, true, true, true, true, true, false, false, false, false] rfl rfl HT_.out ?_
        obtain ⟨hz0, hz1, hz2, hz3, hz4, hz5⟩ := HX4.out.f
        obtain ⟨hc0, hc1, hc2, hc3, hc4, hc5⟩ := HX4.out.c
        have HX5 := Aside0.mk (HX4.out.sets (rd_T41 x 0).f0 (rd_T41 x 0).f1 (rd_T41 x 0).f2)
        have HO5 := Aside0.mk (Row.sets HO4.out (rd_T41 x 0).f0 (rd_T41 x 0).f1 (rd_T41 x 0).f2)
        have HX6 := Aside0.mk (HX5.out.sete (rd_T41 x 1).f0 (rd_T41 x 1).f1 (rd_T41 x 1).f2)
        have HO6 := Aside0.mk (Row.sete HO5.out (rd_T41 x 1).f0 (rd_T41 x 1).f1 (rd_T41 x 1).f2)
        refine one_ (i := 7) (N := none) #[true, true, true, true, true, true, true, true, false, false, false] rfl rfl (one_of HT_.out (by kernel_rfl)) (by decide) (fun K hK => ?_)
        refine skip_ (w1 := ?_) (by rfl) rfl ?_ ?_
        rotate_left
        ·go_simp
         rfl
        refine hK.out _ _ (Kd.R_reads' HO5.out).2.2 (fun hHeld => ?_)
        clear hK K
        refine one_ (i := 8) (N := none) #[true, true, true, true, true, true, true, true, true, false, false] rfl rfl (one_of HT_.out (by kernel_rfl)) (by decide) (fun K hK => ?_)
        refine skip_ (w1 := ?_) (by rfl) rfl ?_ ?_
        rotate_left
        ·go_simp
         rfl
        refine hK.out _ _ (Kd.R_reads' HO6.out).2.2 (fun hHeld => ?_)
        clear hK K
        refine pus_ 9 (some 6) #[true, true, true, true, true, true, true, true, true, true, false] rfl rfl HT_.out ?_
        refine pus_ 10 (some 7) #[true, true, true, true, true, true, true, true, true, true, true] rfl rfl HT_.out ?_
        refine done_ (done_of HT_.out (by kernel_rfl)) ?_
        go_wp2
        (try (rw [Exit.noGoto_ret]; try dsimp only [Exit.inBlock, Exit.then]))
        refine bodyPost_ret (results_list (rs := [.cell 4 41, .cell 5 41, .tmp 6, .tmp 7]) rfl (by simp) (.cell b4 41 #[.int .i64 (rd_T41 x 0).f0, .int .i64 (rd_T41 x 0).f1, .string (rd_T41 x 0).f2] (0, 0) _ rfl HX6.out.s Tryd.underlying41 rfl (by kernel_rfl) (.cell b5 41 #[.int .i64 (rd_T41 x 1).f0, .int .i64 (rd_T41 x 1).f1, .string (rd_T41 x 1).f2] (0, 0) _ rfl HX6.out.e Tryd.underlying41 rfl (by kernel_rfl) (.tmp (.tmp .nil))))) rfl ?_
        exact ⟨rsl_, HX6.out.b⟩
    · rw [if_neg e1] at h
      cases h
  · rw [if_neg e0] at h
    have q0 : (t3 != 0) = true := bne_iff_ne.2 e0
    clear e0
    simp only [Option.some.injEq, Prod.mk.injEq] at h
    obtain ⟨rfl, rfl, rfl, rfl, rfl, rfl, rfl, rfl⟩ := h
    go_enter Tryd.func25, Tryd.ntmps25
    go_wp2_with (first | go_step3 | ((with_reducible refine gate_dst (N := 4) rfl ?_); refine box_event ?hg (N := 4) ?hd (cs := #[.int .i64 0, .int .i64 0, .string (⟨#[]⟩ : ByteArray)]) (t := 41) ?hr ?_; (case hd => rfl); (case hg => rfl); (case hr => first | (go_simp; done) | (go_simp; rfl)); intro b4 hg w2 hbox hb; have n0_ := Aside0.mk (below_step bel_ hb); have BL := Aside0.mk hbox; have OL := Aside0.mk ((bsz_ hg : w.heap.size ≤ b4)); clear HB; have HB := n0_; clear n0_ hb hbox hg) | ((with_reducible refine gate_dst (N := 5) rfl ?_); refine box_event ?hg (N := 5) ?hd (cs := #[.int .i64 0, .int .i64 0, .string (⟨#[]⟩ : ByteArray)]) (t := 41) ?hr ?_; (case hd => rfl); (case hg => rfl); (case hr => first | (go_simp; done) | (go_simp; rfl)); intro b5 hg w3 hbox hb; have HX : Aside0 (Sp w w3 b4 b5 0 0 ⟨#[]⟩ 0 0 ⟨#[]⟩) := ⟨⟨(blb_ BL hb).out, hbox, below_step bel_ hb, OL.out, line_Read.blt_ BL hg⟩⟩; clear HB BL OL hb hbox hg) | ((with_reducible refine gate_callee (f := 49) rfl ?_); refine goesL_ (some 12) rfl rfl Tryd.func49 (by kernel_rfl) rfl #[.slice A0 l0.length c0, .int .i64 a1, .int .i64 2] rfl goa_ ?_; (with_reducible refine (line_lines.calls k _ _ l0 a1 2 t1 t2 t3 _ ?side1 ?side2 A1.out).mono ?_); (case side1 => exact Kd.C_below HR.out (show Sp w _ b4 b5 0 0 ⟨#[]⟩ 0 0 ⟨#[]⟩ by repeat (first | (with_reducible first | exact HX.out | apply Sp.drewN | apply Sp.drew | apply Sp.alloc))).b); (case side2 => exact HC.out); rintro e w10 ⟨v, rfl, ho0, hb⟩; refine ⟨_, rfl, ?_⟩; have HO : Aside0 (Row w w10 b4 b5 v t1) := ⟨Kd.R_mono (Kd.R_lower (Kd.R_newB (Kd.R_newB ho0 (g := b4) (show Sp w _ b4 b5 0 0 ⟨#[]⟩ 0 0 ⟨#[]⟩ by repeat (first | (with_reducible first | exact HX.out | apply Sp.drewN | apply Sp.drew | apply Sp.alloc))).s) (g := b5) (show Sp w _ b4 b5 0 0 ⟨#[]⟩ 0 0 ⟨#[]⟩ by repeat (first | (with_reducible first | exact HX.out | apply Sp.drewN | apply Sp.drew | apply Sp.alloc))).e) (below_size (show Sp w _ b4 b5 0 0 ⟨#[]⟩ 0 0 ⟨#[]⟩ by repeat (first | (with_reducible first | exact HX.out | apply Sp.drewN | apply Sp.drew | apply Sp.alloc))).b)) (fun _ hk => ⟨hk.1.2, hk.2⟩)⟩; have n0_ := Aside0.mk (Sp.below (show Sp w _ b4 b5 0 0 ⟨#[]⟩ 0 0 ⟨#[]⟩ by repeat (first | (with_reducible first | exact HX.out | apply Sp.drewN | apply Sp.drew | apply Sp.alloc))) hb); clear HX hb ho0; have HX := n0_; clear n0_; obtain ⟨Ao, cv, eo⟩ := Kd.R_slice HO.out; subst eo; obtain ⟨hc0, hc1, hc2, hc3, hc4, hc5⟩ := HX.out.c; obtain ⟨hz0, hz1, hz2, hz3, hz4, hz5⟩ := HX.out.f; obtain ⟨hn0, hn1⟩ := HX.out.ne))
    refine at_ (fun w4 hw4 => ?_)
    have HX4 : Aside0 (Sp w w4.drew b4 b5 0 0 ⟨#[]⟩ 0 0 ⟨#[]⟩) := ⟨Sp.drew (by rw [hw4]; exact (show Sp w _ b4 b5 0 0 ⟨#[]⟩ 0 0 ⟨#[]⟩ by repeat (first | (with_reducible first | exact HX.out | apply Sp.drewN | apply Sp.drew | apply Sp.alloc))))⟩
    clear hw4 HX hc0 hc1 hc2 hc3 hc4 hc5 hz0 hz1 hz2 hz3 hz4 hz5
    refine start_ (n := 8) (S := (fun w' => w'.cell? ⟨b4, 0, none⟩ = some (.int .i64 0) ∧ w'.cell? ⟨b4, 1, none⟩ = some (.int .i64 0) ∧ w'.cell? ⟨b4, 2, none⟩ = some (.string ⟨#[]⟩) ∧ w'.cell? ⟨b5, 0, none⟩ = some (.int .i64 0) ∧ w'.cell? ⟨b5, 1, none⟩ = some (.int .i64 0) ∧ w'.cell? ⟨b5, 2, none⟩ = some (.string ⟨#[]⟩))) (ds := []) #[false, false, false, false, false, false, false, false] (by kernel_rfl) rfl rfl HX4.out.c (fun hHeld => ?_)
    refine with_tabW Pair.tab3 Pair.bits3 (fun HT_ HW_ => ?_)
    generalize w4.drew = w5 at HX4 hHeld ⊢
    refine tas_ 0 (some 18) #[true, false, false, false, false, false, false, false] rfl rfl HT_.out HW_.out hHeld ?_
    refine tas_ 1 (some 19) #[true, true, false, false, false, false, false, false] rfl rfl HT_.out HW_.out hHeld ?_
    refine pus_ 2 (some 20) #[true, true, true, false, false, false, false, false] rfl rfl HT_.out ?_
    refine pus_ 3 (some 21) #[true, true, true, true, false, false, false, false] rfl rfl HT_.out ?_
    obtain ⟨hz0, hz1, hz2, hz3, hz4, hz5⟩ := HX4.out.f
    obtain ⟨hc0, hc1, hc2, hc3, hc4, hc5⟩ := HX4.out.c
    have HX5 := Aside0.mk (HX4.out.sets 0 0 ⟨#[]⟩)
    have HX6 := Aside0.mk (HX5.out.sete 0 0 ⟨#[]⟩)
    refine one_ (i := 4) (N := none) #[true, true, true, true, true, false, false, false] rfl rfl (one_of HT_.out (by kernel_rfl)) (by decide) (fun K hK => ?_)
    refine skip_ (w1 := ?_) (by rfl) rfl ?_ ?_
    rotate_left
    ·go_simp
     rfl
    refine hK.out _ _ HX5.out.c (fun hHeld => ?_)
    clear hK K
    refine one_ (i := 5) (N := none) #[true, true, true, true, true, true, false, false] rfl rfl (one_of HT_.out (by kernel_rfl)) (by decide) (fun K hK => ?_)
    refine skip_ (w1 := ?_) (by rfl) rfl ?_ ?_
    rotate_left
    ·go_simp
     rfl
    refine hK.out _ _ HX6.out.c (fun hHeld => ?_)
    clear hK K
    refine pus_ 6 (some 6) #[true, true, true, true, true, true, true, false] rfl rfl HT_.out ?_
    refine pus_ 7 (some 7) #[true, true, true, true, true, true, true, true] rfl rfl HT_.out ?_
    refine done_ (done_of HT_.out (by kernel_rfl)) ?_
    go_wp2
    (try (rw [Exit.noGoto_ret]; try dsimp only [Exit.inBlock, Exit.then]))
    refine bodyPost_ret (results_list (rs := [.cell 4 41, .cell 5 41, .tmp 6, .tmp 7]) rfl (by simp) (.cell b4 41 #[.int .i64 0, .int .i64 0, .string (⟨#[]⟩ : ByteArray)] (0, 0) _ rfl HX6.out.s Tryd.underlying41 rfl (by kernel_rfl) (.cell b5 41 #[.int .i64 0, .int .i64 0, .string (⟨#[]⟩ : ByteArray)] (0, 0) _ rfl HX6.out.e Tryd.underlying41 rfl (by kernel_rfl) (.tmp (.tmp .nil))))) rfl ?_
    exact ⟨rsl_, HX6.out.b⟩
end line_Pair
end Go.Proofs.YtofdhdafabmhmaaDoor.Giv
end
section
namespace Go.Proofs.YtofdhdafabmhmaaDoor.PLa
open Go.RowKit Go.Proofs.YtofdhdafabmhmaaDoorW.PrintWords Go.Proofs.YtofdhdafabmhmaaDoorW.PrintLast Go.Proofs.YtofdhdafabmhmaaDoorW.PrintMore
attribute [local go_sem] max2_int min2_int max_two min_two max_three min_three max_four min_four
open Go.Proofs.YtofdhdafabmhmaaDoor.Opn Go.Proofs.YtofdhdafabmhmaaDoor.Giv

attribute [local go_sem high] eqA41
/-! ### parterrelaw07_lives: function 20 -/
def parterrelaw07_lives.l0 : Nat → List ByteArray → Int → Int → Int → Int → ByteArray → Option (Bool)
 | 0, _, _, _, _, _, _ => none
 | k + 1, x15, x16, x17, x251000, x251001, x251002 => if x17 < x16 then (if 0 ≤ x17 then (if x17 < (x15.length : Int) then ((parterrelaw07_words.f k (rdOf ByteArray.empty x15 x17)).bind fun t255 => ((line_Read.f k t255 0).bind fun bt258 => (if bt258.2.2.2.2 = 0 then (if (!(bt258.1 == x251000) || (!(bt258.2.1 == x251001) || (!(bt258.2.2.1.toList == x251002.toList)))) = true then (none) else (parterrelaw07_lives.l0 k x15 x16 (wrap64 (x17 + 1)) x251000 x251001 x251002)) else (none)))) else (none)) else (none)) else ((parterrelaw07_words.f k (⟨#[97]⟩ : ByteArray)).bind fun t264 => ((line_Pair.f k t264 0).bind fun bt267 => ((parterrelaw07_words.f k (⟨#[48]⟩ : ByteArray)).bind fun t277 => ((line_Read.f k t277 0).bind fun bt280 => (if bt267.2.2.2.2.2.2.2 = 0 then (if (bt267.1 == bt267.2.2.2.1 && (bt267.2.1 == bt267.2.2.2.2.1 && (bt267.2.2.1.toList == bt267.2.2.2.2.2.1.toList))) = true then (if bt267.2.2.1.toList = ([97] : List UInt8) then (some (bt280.2.2.2.2 == 50)) else (none)) else (none)) else (none))))))
def parterrelaw07_lives.f (k : Nat)  : Option (Bool) := (some (([(⟨#[115, 112, 97, 110, 32, 50, 32, 97]⟩ : ByteArray), (⟨#[97, 32, 50, 32, 115, 112, 97, 110]⟩ : ByteArray), (⟨#[115, 112, 97, 110, 32, 97, 32, 50]⟩ : ByteArray)] : List ByteArray) : List ByteArray)).bind fun y251 => (parterrelaw07_lives.l0 k y251 (y251.length : Int) 0 4 2 (⟨#[97]⟩ : ByteArray))
theorem parterrelaw07_lives.mono_l : ∀ k, (∀ y0 y1 y2 y3 y4 y5, LeO (parterrelaw07_lives.l0 k y0 y1 y2 y3 y4 y5) (parterrelaw07_lives.l0 (k + 1) y0 y1 y2 y3 y4 y5))
 | 0 => fun _ _ _ _ _ _ r h => by simp [parterrelaw07_lives.l0] at h
 | k + 1 => by
  have ih0 := parterrelaw07_lives.mono_l k
  ·intro y0 y1 y2 y3 y4 y5
   unfold parterrelaw07_lives.l0
   repeat' first
   | (with_reducible exact ih0 _ _ _ _ _ _)
   | (with_reducible exact line_Pair.mono _ _ _)
   | (with_reducible exact line_Read.mono _ _ _)
   | (with_reducible exact parterrelaw07_words.mono _ _)
   | (with_reducible exact LeO.refl _)
   | (with_reducible exact LeO.none _)
   | (with_reducible refine LeO.ite ?_ ?_)
   | (with_reducible refine LeO.bind ?_ (fun _ => ?_))
theorem parterrelaw07_lives.mono : ∀ k, LeO (parterrelaw07_lives.f k ) (parterrelaw07_lives.f (k + 1) ) := by
 intro  k
 have ih0 := parterrelaw07_lives.mono_l k
 unfold parterrelaw07_lives.f
 repeat' first
   | (with_reducible exact ih0 _ _ _ _ _ _)
   | (with_reducible exact line_Pair.mono _ _ _)
   | (with_reducible exact line_Read.mono _ _ _)
   | (with_reducible exact parterrelaw07_words.mono _ _)
   | (with_reducible exact LeO.refl _)
   | (with_reducible exact LeO.none _)
   | (with_reducible refine LeO.ite ?_ ?_)
   | (with_reducible refine LeO.bind ?_ (fun _ => ?_))
set_option maxHeartbeats 8000000 in
set_option maxRecDepth 100000 in
theorem parterrelaw07_lives.calls (k : Nat)  (r : Bool) (w : World) (h : parterrelaw07_lives.f k  = some r) :
  Calls Tryd.prog 20 #[] w fun e w' => e = .returned (.bool r) ∧ Below w.heap.size w w' := by
 have hu41 := Tryd.underlying41
 have HB := Aside0.mk (Below.refl w.heap.size w)
 have H : ((some (([(⟨#[115, 112, 97, 110, 32, 50, 32, 97]⟩ : ByteArray), (⟨#[97, 32, 50, 32, 115, 112, 97, 110]⟩ : ByteArray), (⟨#[115, 112, 97, 110, 32, 97, 32, 50]⟩ : ByteArray)] : List ByteArray) : List ByteArray)).bind fun y251 => (parterrelaw07_lives.l0 k y251 (y251.length : Int) 0 4 2 (⟨#[97]⟩ : ByteArray))) = some r := h
 clear h
 obtain ⟨y251, hy251⟩ : ∃ y_ : List ByteArray, y_ = (([(⟨#[115, 112, 97, 110, 32, 50, 32, 97]⟩ : ByteArray), (⟨#[97, 32, 50, 32, 115, 112, 97, 110]⟩ : ByteArray), (⟨#[115, 112, 97, 110, 32, 97, 32, 50]⟩ : ByteArray)] : List ByteArray)) := ⟨_, rfl⟩
 replace H : (parterrelaw07_lives.l0 k y251 (y251.length : Int) 0 4 2 (⟨#[97]⟩ : ByteArray)) = some r := by first | (rw [hy251]; with_reducible exact H) | (have H2_ := (Option.bind_some _ _).symm.trans H; rw [hy251]; with_reducible exact H2_) | (have H2_ := (Option.bind_some _ _).symm.trans H; with_reducible exact H2_) | with_reducible exact H | (rw [hy251]; exact H) | exact H
 have Ny251 := Aside0.mk hy251
 clear hy251
 have H' := Aside0.mk H
 clear H
 go_enter Tryd.func20, Tryd.ntmps20
 go_wp2_with (first | ((with_reducible refine gate_dst (N := 1) rfl ?_); refine box_event ?hg (N := 1) ?hd (cs := #[.int .i64 0, .int .i64 0, .string (⟨#[]⟩ : ByteArray)]) (t := 41) ?hr ?_; (case hd => rfl); (case hg => rfl); (case hr => first | (go_simp; done) | (go_simp; rfl)); intro gb250 hg w1 hbox hb; have n0_ := Aside0.mk (below_step bel_ hb); have n1_ := Aside0.mk (hbox); have n2_ := Aside0.mk ((bsz_ hg : w.heap.size ≤ gb250)); have n3_ := Aside0.mk ((bsz_ hg : w.heap.size ≤ gb250)); clear HB; have HB := n0_; have BK250 := n1_; have GW250 := n2_; have GE250 := n3_; clear n0_ n1_ n2_ n3_; clear hb hbox hg; have hcz2_0 : w1.cell? ⟨gb250, 0, none⟩ = some (.int .i64 0) := (blk_cell BK250.out 0).trans rfl; have hcz2_1 : w1.cell? ⟨gb250, 1, none⟩ = some (.int .i64 0) := (blk_cell BK250.out 1).trans rfl; have hcz2_2 : w1.cell? ⟨gb250, 2, none⟩ = some (.string (⟨#[]⟩ : ByteArray)) := (blk_cell BK250.out 2).trans rfl; have hfz2_0 := blk_frozen BK250.out 0; have hfz2_1 := blk_frozen BK250.out 1; have hfz2_2 := blk_frozen BK250.out 2) | ((with_reducible refine gate_dst (N := 15) rfl ?_); refine Kd.R_lit Kd.string _ 9 ?hg (N := 15) ?hd (xs := ([(⟨#[115, 112, 97, 110, 32, 50, 32, 97]⟩ : ByteArray), (⟨#[97, 32, 50, 32, 115, 112, 97, 110]⟩ : ByteArray), (⟨#[115, 112, 97, 110, 32, 97, 32, 50]⟩ : ByteArray)] : List ByteArray)) (inner := [.string (⟨#[115, 112, 97, 110, 32, 50, 32, 97]⟩ : ByteArray), .string (⟨#[97, 32, 50, 32, 115, 112, 97, 110]⟩ : ByteArray), .string (⟨#[115, 112, 97, 110, 32, 97, 32, 50]⟩ : ByteArray)]) (ok := fun _ => True) (okp := fun _ => True) ?hr ?hp (fun _ hk => hk) trivial (Below.refl _ _) (Nat.le_refl _) (by simp) ?_; (case hd => rfl); (case hg => rfl); (case hr => first | (go_simp; done) | (go_simp; rfl)); (case hp => exact (Reps.one (show Kd.M Kd.string _ _ _ (⟨#[115, 112, 97, 110, 32, 50, 32, 97]⟩ : ByteArray) [.string (⟨#[115, 112, 97, 110, 32, 50, 32, 97]⟩ : ByteArray)] from rfl) (Reps.one (show Kd.M Kd.string _ _ _ (⟨#[97, 32, 50, 32, 115, 112, 97, 110]⟩ : ByteArray) [.string (⟨#[97, 32, 50, 32, 115, 112, 97, 110]⟩ : ByteArray)] from rfl) (Reps.one (show Kd.M Kd.string _ _ _ (⟨#[115, 112, 97, 110, 32, 97, 32, 50]⟩ : ByteArray) [.string (⟨#[115, 112, 97, 110, 32, 97, 32, 50]⟩ : ByteArray)] from rfl) (Reps.none _ _))))); intro v252 w3 ho4 hb hg_ hnew_; clear hg_ hnew_; (first | rw [← Ny251.out] at ho4 | (simp only [Int.reduceToNat] at ho4; rw [← Ny251.out] at ho4)); have n0_ := Aside0.mk (Kd.R_lower ho4 (below_size bel_)); have n1_ := Aside0.mk (blk_below (g := gb250) (o := .cells #[.int .i64 4, .int .i64 2, .string (⟨#[97]⟩ : ByteArray)] 41 (0, 0)) (by (with_reducible repeat (first | refine blk_drewN ?_ _ | refine blk_drew ?_ | refine blk_alloc ?_ _)); refine blk_put (cs := #[.int .i64 4, .int .i64 2, .string (⟨#[]⟩ : ByteArray)]) ?_ 2 _ rfl; (with_reducible repeat (first | refine blk_drewN ?_ _ | refine blk_drew ?_ | refine blk_alloc ?_ _)); refine blk_put (cs := #[.int .i64 4, .int .i64 0, .string (⟨#[]⟩ : ByteArray)]) ?_ 1 _ rfl; (with_reducible repeat (first | refine blk_drewN ?_ _ | refine blk_drew ?_ | refine blk_alloc ?_ _)); refine blk_put (cs := #[.int .i64 0, .int .i64 0, .string (⟨#[]⟩ : ByteArray)]) ?_ 0 _ rfl; (with_reducible repeat (first | refine blk_drewN ?_ _ | refine blk_drew ?_ | refine blk_alloc ?_ _)); exact BK250.out) hb); have n2_ := Aside0.mk (below_step bel_ hb); clear BK250; clear HB; have HO253 := n0_; have BK250 := n1_; have HB := n2_; clear n0_ n1_ n2_; clear hb ho4; obtain ⟨Ao5, co5, eo5⟩ := Kd.R_slice HO253.out; subst eo5))
 go_loopg [17] k (fun kq v17 w' => ∃ (x17_1 : Int), v17 = .int .i64 x17_1 ∧ Aside0 (parterrelaw07_lives.l0 kq y251 (y251.length : Int) x17_1 4 2 (⟨#[97]⟩ : ByteArray) = some r) ∧ Aside0 (kq ≤ k) ∧ Aside0 (Kd.R Kd.string 9 w' w.heap.size (fun _ => True) (.slice Ao5 y251.length co5) y251) ∧ Aside0 (w'.heap[gb250]? = some (.cells #[.int .i64 4, .int .i64 2, .string (⟨#[97]⟩ : ByteArray)] 41 (0, 0))) ∧ Aside0 (Below w.heap.size w w'))
 case atStart => exact ⟨(0), rfs_, H', ⟨Nat.le_refl _⟩, ⟨by (with_reducible repeat (first | apply Kd.R_alloc | apply Kd.R_drewN | apply Kd.R_drew)); exact HO253.out⟩, ⟨blk_⟩, ⟨bel_⟩⟩
 case round =>
  clear H'
  try clear c2
  try clear p2
  try clear hcz2_0
  try clear hcz2_1
  try clear hcz2_2
  try clear hfz2_0
  try clear hfz2_1
  try clear hfz2_2
  obtain ⟨x17_1, rfl, HA, HK1, HO_15, BK250, HB⟩ := hrel
  cases gk with
  | zero => exact absurd HA.out (by simp [parterrelaw07_lives.l0])
  | succ k1 =>
   have H := HA.out
   clear HA
   simp only [parterrelaw07_lives.l0] at H
   by_cases c6 : x17_1 < (y251.length : Int)
   ·rw [if_pos c6] at H
    have c6b0 : decide (x17_1 < (y251.length : Int)) = true := decide_eq_true c6
    clear c6
    by_cases c7 : 0 ≤ x17_1
    ·rw [if_pos c7] at H
     have c7b0 : decide (0 ≤ x17_1) = true := decide_eq_true c7
     clear c7
     by_cases c8 : x17_1 < (y251.length : Int)
     ·rw [if_pos c8] at H
      have c8b0 : decide (x17_1 < (y251.length : Int)) = true := decide_eq_true c8
      clear c8
      replace H := Option.bind_eq_some_iff.mp H
      obtain ⟨t255, A90, H⟩ := H
      try dsimp only at H
      have A9 := Aside0.mk A90
      clear A90
      replace H := Option.bind_eq_some_iff.mp H
      obtain ⟨⟨t258, t259, t260, t261, t262⟩, A100, H⟩ := H
      try dsimp only at H
      have A10 := Aside0.mk A100
      clear A100
      by_cases c11 : t262 = 0
      ·rw [if_pos c11] at H
       have c11b0 : (t262 == 0) = true := beq_iff_eq.mpr c11
       have c11b1 : (t262 != 0) = false := bne_eq_false_iff_eq.mpr c11
       clear c11
       by_cases c12 : (!(t258 == 4) || (!(t259 == 2) || (!(t260.toList == (⟨#[97]⟩ : ByteArray).toList)))) = true
       ·rw [if_pos c12] at H
        exact absurd H (by simp)
       ·rw [if_neg c12] at H
        have c12b0 : (!(t258 == 4) || (!(t259 == 2) || (!(t260.toList == ([97] : List UInt8))))) = false := by (try rw [show (⟨#[97]⟩ : ByteArray).toList = ([97] : List UInt8) by rw [ByteArray.toList_eq]] at c12); simpa using c12
        clear c12
        have H' := Aside0.mk H
        clear H
        have p254 : 0 ≤ (x17_1 : Int) := of_decide_eq_true (by first | (with_reducible assumption) | assumption)
        have q254 : x17_1 < (y251.length : Int) := of_decide_eq_true (by first | (with_reducible assumption) | assumption)
        obtain ⟨ad254, e254, hx254_0⟩ := Kd.at_string (Kd.R_reads' HO_15.out).2.2 x17_1 p254 q254
        cases e254
        replace p254 := eq_true p254
        replace q254 := eq_true q254
        go_wp2_with (first | ((with_reducible refine gate_callee (f := 21) rfl ?_); refine goesL_ (some 23) rfl rfl Tryd.func21 (by kernel_rfl) rfl #[.string (rdOf ByteArray.empty y251 x17_1)] rfl goa_ ?_; (with_reducible refine (parterrelaw07_words.calls k1 (rdOf ByteArray.empty y251 x17_1) t255 _ A9.out).mono ?_); rintro e w13 ⟨v256, rfl, ho0, hb⟩; refine ⟨_, rfl, ?_⟩; have n0_ := Aside0.mk (Kd.R_below (by (with_reducible repeat (first | apply Kd.R_alloc | apply Kd.R_drewN | apply Kd.R_drew)); exact HO_15.out) hb); have n1_ := Aside0.mk (Kd.R_lower ho0 (below_size bel_)); have n2_ := blb_ BK250 hb; have n3_ := Aside0.mk (below_step bel_ hb); clear HO_15; clear BK250; clear HB; have HO_15 := n0_; have HO257 := n1_; have BK250 := n2_; have HB := n3_; clear n0_ n1_ n2_ n3_; (try clear hb); (try clear hb2); (try clear hk); (try clear hi); (try clear ho0); obtain ⟨Ao14, co14, eo14⟩ := Kd.R_slice HO257.out; subst eo14) | ((with_reducible refine gate_callee (f := 23) rfl ?_); refine goesL_ (some 24) rfl rfl Tryd.func23 (by kernel_rfl) rfl #[.slice Ao14 t255.length co14, .int .i64 0] rfl goa_ ?_; (with_reducible refine (line_Read.calls k1 _ _ t255 0 t258 t259 t260 t261 t262 _ ?side1 ?side2 A10.out).mono ?_); (case side1 => repeat (first | exact (Kd.R_reads' HO257.out).2.2 | (with_reducible refine Kd.C_alloc ?_ _) | (with_reducible refine Kd.C_drewN ?_ _) | (with_reducible refine Kd.C_drew ?_))); (case side2 => exact (Kd.R_reads' HO257.out).2.1); rintro e w15 ⟨rfl, hb⟩; refine ⟨_, rfl, ?_⟩; have n0_ := Aside0.mk (Kd.R_below (by (with_reducible repeat (first | apply Kd.R_alloc | apply Kd.R_drewN | apply Kd.R_drew)); exact HO_15.out) hb); have n1_ := Aside0.mk (Kd.R_below (by (with_reducible repeat (first | apply Kd.R_alloc | apply Kd.R_drewN | apply Kd.R_drew)); exact HO257.out) hb); have n2_ := blb_ BK250 hb; have n3_ := Aside0.mk (below_step bel_ hb); clear HO_15; clear HO257; clear BK250; clear HB; have HO_15 := n0_; have HO257 := n1_; have BK250 := n2_; have HB := n3_; clear n0_ n1_ n2_ n3_; clear hb) | ((with_reducible refine gate_dst (N := 4) rfl ?_); refine box_event ?hg (N := 4) ?hd (cs := #[.int .i64 0, .int .i64 0, .string (⟨#[]⟩ : ByteArray)]) (t := 41) ?hr ?_; (case hd => rfl); (case hg => rfl); (case hr => first | (go_simp; done) | (go_simp; rfl)); intro gb263 hg w16 hbox hb; have n0_ := Aside0.mk (Kd.R_below (by (with_reducible repeat (first | apply Kd.R_alloc | apply Kd.R_drewN | apply Kd.R_drew)); exact HO_15.out) hb); have n1_ := Aside0.mk (Kd.R_below (by (with_reducible repeat (first | apply Kd.R_alloc | apply Kd.R_drewN | apply Kd.R_drew)); exact HO257.out) hb); have n2_ := blb_ BK250 hb; have n3_ := Aside0.mk (below_step bel_ hb); have n4_ := Aside0.mk (hbox); have n5_ := Aside0.mk ((bsz_ hg : w.heap.size ≤ gb263)); have n6_ := Aside0.mk ((bsz_ hg : w.heap.size ≤ gb263)); have n7_ := Aside0.mk (bne_ BK250 hg : gb250 ≠ gb263); have n8_ := Aside0.mk (bng_ BK250 hg : gb263 ≠ gb250); clear HO_15; clear HO257; clear BK250; clear HB; have HO_15 := n0_; have HO257 := n1_; have BK250 := n2_; have HB := n3_; have BK263 := n4_; have GW263 := n5_; have GE263 := n6_; have NB250_263 := n7_; have NB263_250 := n8_; clear n0_ n1_ n2_ n3_ n4_ n5_ n6_ n7_ n8_; clear hb hbox hg; have hnb17 := NB263_250.out; have hnc17 := NB250_263.out; have hcz18_0 : w16.cell? ⟨gb263, 0, none⟩ = some (.int .i64 0) := (blk_cell BK263.out 0).trans rfl; have hcz18_1 : w16.cell? ⟨gb263, 1, none⟩ = some (.int .i64 0) := (blk_cell BK263.out 1).trans rfl; have hcz18_2 : w16.cell? ⟨gb263, 2, none⟩ = some (.string (⟨#[]⟩ : ByteArray)) := (blk_cell BK263.out 2).trans rfl; have hfz18_0 := blk_frozen BK263.out 0; have hfz18_1 := blk_frozen BK263.out 1; have hfz18_2 := blk_frozen BK263.out 2; have hcz19_0 : w16.cell? ⟨gb250, 0, none⟩ = some (.int .i64 4) := (blk_cell BK250.out 0).trans rfl; have hcz19_1 : w16.cell? ⟨gb250, 1, none⟩ = some (.int .i64 2) := (blk_cell BK250.out 1).trans rfl; have hcz19_2 : w16.cell? ⟨gb250, 2, none⟩ = some (.string (⟨#[97]⟩ : ByteArray)) := (blk_cell BK250.out 2).trans rfl; have hfz19_0 := blk_frozen BK250.out 0; have hfz19_1 := blk_frozen BK250.out 1; have hfz19_2 := blk_frozen BK250.out 2))
        go_roundg k1
        case measure => have := HK1.out; omega
        case rel => exact ⟨(wrap64 (x17_1 + 1)), rfs_, H', ⟨by have := HK1.out; omega⟩, ⟨by (with_reducible repeat (first | apply Kd.R_alloc | apply Kd.R_drewN | apply Kd.R_drew)); exact Kd.R_mono (Kd.R_far (p := ⟨gb263, 2, none⟩) (Kd.R_far (p := ⟨gb263, 1, none⟩) (Kd.R_far (p := ⟨gb263, 0, none⟩) (Kd.R_types HO_15.out BK263.out (by decide)) (fun _ hk => hk.2) (.int .i64 t258)) (fun _ hk => hk.2) (.int .i64 t259)) (fun _ hk => hk.2) (.string t260)) (fun _ hk => trivial)⟩, ⟨by (with_reducible repeat (first | refine blk_drewN ?_ _ | refine blk_drew ?_ | refine blk_alloc ?_ _)); refine blk_far ?_ NB250_263.out _; (with_reducible repeat (first | refine blk_drewN ?_ _ | refine blk_drew ?_ | refine blk_alloc ?_ _)); refine blk_far ?_ NB250_263.out _; (with_reducible repeat (first | refine blk_drewN ?_ _ | refine blk_drew ?_ | refine blk_alloc ?_ _)); refine blk_far ?_ NB250_263.out _; (with_reducible repeat (first | refine blk_drewN ?_ _ | refine blk_drew ?_ | refine blk_alloc ?_ _)); exact BK250.out⟩, ⟨bel_⟩⟩
      ·rw [if_neg c11] at H
       exact absurd H (by simp)
     ·rw [if_neg c8] at H
      exact absurd H (by simp)
    ·rw [if_neg c7] at H
     exact absurd H (by simp)
   ·rw [if_neg c6] at H
    have c6b0 : decide (x17_1 < (y251.length : Int)) = false := decide_eq_false c6
    clear c6
    replace H := Option.bind_eq_some_iff.mp H
    obtain ⟨t264, A200, H⟩ := H
    try dsimp only at H
    have A20 := Aside0.mk A200
    clear A200
    replace H := Option.bind_eq_some_iff.mp H
    obtain ⟨⟨t267, t268, t269, t270, t271, t272, t273, t274⟩, A210, H⟩ := H
    try dsimp only at H
    have A21 := Aside0.mk A210
    clear A210
    replace H := Option.bind_eq_some_iff.mp H
    obtain ⟨t277, A220, H⟩ := H
    try dsimp only at H
    have A22 := Aside0.mk A220
    clear A220
    replace H := Option.bind_eq_some_iff.mp H
    obtain ⟨⟨t280, t281, t282, t283, t284⟩, A230, H⟩ := H
    try dsimp only at H
    have A23 := Aside0.mk A230
    clear A230
    by_cases c24 : t274 = 0
    ·rw [if_pos c24] at H
     have c24b0 : (t274 == 0) = true := beq_iff_eq.mpr c24
     have c24b1 : (t274 != 0) = false := bne_eq_false_iff_eq.mpr c24
     clear c24
     by_cases c25 : (t267 == t270 && (t268 == t271 && (t269.toList == t272.toList))) = true
     ·rw [if_pos c25] at H
      have c25b0 : (t267 == t270 && (t268 == t271 && (t269.toList == t272.toList))) = true := c25
      (try (have c25b1 : decide (t267 = t270 && (t268 == t271 && (t269.toList == t272.toList))) = true := by simpa using c25))
      (try (have c25b2 : (t267 == t270 && (t268 == t271 && (t269.toList == t272.toList))) = true := by simpa using c25))
      clear c25
      by_cases c26 : t269.toList = ([97] : List UInt8)
      ·rw [if_pos c26] at H
       have c26b0 : (t269.toList == ([97] : List UInt8)) = true := beq_iff_eq.mpr c26
       have c26b1 : (t269.toList != ([97] : List UInt8)) = false := bne_eq_false_iff_eq.mpr c26
       clear c26
       obtain rfl := Option.some.inj H
       go_wp2_with (first | ((with_reducible refine gate_callee (f := 21) rfl ?_); refine goesL_ (some 37) rfl rfl Tryd.func21 (by kernel_rfl) rfl #[.string (⟨#[97]⟩ : ByteArray)] rfl goa_ ?_; (with_reducible refine (parterrelaw07_words.calls k1 (⟨#[97]⟩ : ByteArray) t264 _ A20.out).mono ?_); rintro e w27 ⟨v265, rfl, ho0, hb⟩; refine ⟨_, rfl, ?_⟩; have n0_ := Aside0.mk (Kd.R_below (by (with_reducible repeat (first | apply Kd.R_alloc | apply Kd.R_drewN | apply Kd.R_drew)); exact HO_15.out) hb); have n1_ := Aside0.mk (Kd.R_lower ho0 (below_size bel_)); have n2_ := blb_ BK250 hb; have n3_ := Aside0.mk (below_step bel_ hb); clear HO_15; clear BK250; clear HB; have HO_15 := n0_; have HO266 := n1_; have BK250 := n2_; have HB := n3_; clear n0_ n1_ n2_ n3_; (try clear hb); (try clear hb2); (try clear hk); (try clear hi); (try clear ho0); obtain ⟨Ao28, co28, eo28⟩ := Kd.R_slice HO266.out; subst eo28) | ((with_reducible refine gate_callee (f := 25) rfl ?_); refine goesL_ (some 38) rfl rfl Tryd.func25 (by kernel_rfl) rfl #[.slice Ao28 t264.length co28, .int .i64 0] rfl goa_ ?_; (with_reducible refine (line_Pair.calls k1 _ _ t264 0 t267 t268 t269 t270 t271 t272 t273 t274 _ ?side1 ?side2 A21.out).mono ?_); (case side1 => repeat (first | exact (Kd.R_reads' HO266.out).2.2 | (with_reducible refine Kd.C_alloc ?_ _) | (with_reducible refine Kd.C_drewN ?_ _) | (with_reducible refine Kd.C_drew ?_))); (case side2 => exact (Kd.R_reads' HO266.out).2.1); rintro e w29 ⟨rfl, hb⟩; refine ⟨_, rfl, ?_⟩; have n0_ := Aside0.mk (Kd.R_below (by (with_reducible repeat (first | apply Kd.R_alloc | apply Kd.R_drewN | apply Kd.R_drew)); exact HO_15.out) hb); have n1_ := Aside0.mk (Kd.R_below (by (with_reducible repeat (first | apply Kd.R_alloc | apply Kd.R_drewN | apply Kd.R_drew)); exact HO266.out) hb); have n2_ := blb_ BK250 hb; have n3_ := Aside0.mk (below_step bel_ hb); clear HO_15; clear HO266; clear BK250; clear HB; have HO_15 := n0_; have HO266 := n1_; have BK250 := n2_; have HB := n3_; clear n0_ n1_ n2_ n3_; clear hb) | ((with_reducible refine gate_dst (N := 7) rfl ?_); refine box_event ?hg (N := 7) ?hd (cs := #[.int .i64 0, .int .i64 0, .string (⟨#[]⟩ : ByteArray)]) (t := 41) ?hr ?_; (case hd => rfl); (case hg => rfl); (case hr => first | (go_simp; done) | (go_simp; rfl)); intro gb275 hg w30 hbox hb; have n0_ := Aside0.mk (Kd.R_below (by (with_reducible repeat (first | apply Kd.R_alloc | apply Kd.R_drewN | apply Kd.R_drew)); exact HO_15.out) hb); have n1_ := Aside0.mk (Kd.R_below (by (with_reducible repeat (first | apply Kd.R_alloc | apply Kd.R_drewN | apply Kd.R_drew)); exact HO266.out) hb); have n2_ := blb_ BK250 hb; have n3_ := Aside0.mk (below_step bel_ hb); have n4_ := Aside0.mk (hbox); have n5_ := Aside0.mk ((bsz_ hg : w.heap.size ≤ gb275)); have n6_ := Aside0.mk ((bsz_ hg : w.heap.size ≤ gb275)); have n7_ := Aside0.mk (bne_ BK250 hg : gb250 ≠ gb275); have n8_ := Aside0.mk (bng_ BK250 hg : gb275 ≠ gb250); clear HO_15; clear HO266; clear BK250; clear HB; have HO_15 := n0_; have HO266 := n1_; have BK250 := n2_; have HB := n3_; have BK275 := n4_; have GW275 := n5_; have GE275 := n6_; have NB250_275 := n7_; have NB275_250 := n8_; clear n0_ n1_ n2_ n3_ n4_ n5_ n6_ n7_ n8_; clear hb hbox hg) | ((with_reducible refine gate_dst (N := 8) rfl ?_); refine box_event ?hg (N := 8) ?hd (cs := #[.int .i64 0, .int .i64 0, .string (⟨#[]⟩ : ByteArray)]) (t := 41) ?hr ?_; (case hd => rfl); (case hg => rfl); (case hr => first | (go_simp; done) | (go_simp; rfl)); intro gb276 hg w31 hbox hb; have n0_ := Aside0.mk (Kd.R_below (by (with_reducible repeat (first | apply Kd.R_alloc | apply Kd.R_drewN | apply Kd.R_drew)); exact HO_15.out) hb); have n1_ := Aside0.mk (Kd.R_below (by (with_reducible repeat (first | apply Kd.R_alloc | apply Kd.R_drewN | apply Kd.R_drew)); exact HO266.out) hb); have n2_ := blb_ BK250 hb; have n3_ := blb_ BK275 hb; have n4_ := Aside0.mk (below_step bel_ hb); have n5_ := Aside0.mk (hbox); have n6_ := Aside0.mk ((bsz_ hg : w.heap.size ≤ gb276)); have n7_ := Aside0.mk ((bsz_ hg : w.heap.size ≤ gb276)); have n8_ := Aside0.mk (bne_ BK250 hg : gb250 ≠ gb276); have n9_ := Aside0.mk (bng_ BK250 hg : gb276 ≠ gb250); have n10_ := Aside0.mk (bne_ BK275 hg : gb275 ≠ gb276); have n11_ := Aside0.mk (bng_ BK275 hg : gb276 ≠ gb275); clear HO_15; clear HO266; clear BK250; clear BK275; clear HB; have HO_15 := n0_; have HO266 := n1_; have BK250 := n2_; have BK275 := n3_; have HB := n4_; have BK276 := n5_; have GW276 := n6_; have GE276 := n7_; have NB250_276 := n8_; have NB276_250 := n9_; have NB275_276 := n10_; have NB276_275 := n11_; clear n0_ n1_ n2_ n3_ n4_ n5_ n6_ n7_ n8_ n9_ n10_ n11_; clear hb hbox hg; have hnb32 := NB275_250.out; have hnc32 := NB250_275.out; have hnb33 := NB275_276.out; have hnc33 := NB276_275.out; have hcz34_0 : w31.cell? ⟨gb275, 0, none⟩ = some (.int .i64 0) := (blk_cell BK275.out 0).trans rfl; have hcz34_1 : w31.cell? ⟨gb275, 1, none⟩ = some (.int .i64 0) := (blk_cell BK275.out 1).trans rfl; have hcz34_2 : w31.cell? ⟨gb275, 2, none⟩ = some (.string (⟨#[]⟩ : ByteArray)) := (blk_cell BK275.out 2).trans rfl; have hfz34_0 := blk_frozen BK275.out 0; have hfz34_1 := blk_frozen BK275.out 1; have hfz34_2 := blk_frozen BK275.out 2; have hnb35 := NB276_250.out; have hnc35 := NB250_276.out; have hcz36_0 : w31.cell? ⟨gb276, 0, none⟩ = some (.int .i64 0) := (blk_cell BK276.out 0).trans rfl; have hcz36_1 : w31.cell? ⟨gb276, 1, none⟩ = some (.int .i64 0) := (blk_cell BK276.out 1).trans rfl; have hcz36_2 : w31.cell? ⟨gb276, 2, none⟩ = some (.string (⟨#[]⟩ : ByteArray)) := (blk_cell BK276.out 2).trans rfl; have hfz36_0 := blk_frozen BK276.out 0; have hfz36_1 := blk_frozen BK276.out 1; have hfz36_2 := blk_frozen BK276.out 2) | ((with_reducible refine gate_callee (f := 21) rfl ?_); refine goesL_ (some 44) rfl rfl Tryd.func21 (by kernel_rfl) rfl #[.string (⟨#[48]⟩ : ByteArray)] rfl goa_ ?_; (with_reducible refine (parterrelaw07_words.calls k1 (⟨#[48]⟩ : ByteArray) t277 _ A22.out).mono ?_); rintro e w37 ⟨v278, rfl, ho0, hb⟩; refine ⟨_, rfl, ?_⟩; have n0_ := Aside0.mk (Kd.R_below (by (with_reducible repeat (first | apply Kd.R_alloc | apply Kd.R_drewN | apply Kd.R_drew)); exact (Kd.R_mono (Kd.R_mono (Kd.R_far (p := ⟨gb276, 2, none⟩) (Kd.R_far (p := ⟨gb276, 1, none⟩) (Kd.R_far (p := ⟨gb276, 0, none⟩) (Kd.R_far (p := ⟨gb275, 2, none⟩) (Kd.R_far (p := ⟨gb275, 1, none⟩) (Kd.R_far (p := ⟨gb275, 0, none⟩) (Kd.R_types (Kd.R_types HO_15.out BK275.out (by decide)) BK276.out (by decide)) (fun _ hk => hk.1.2) (.int .i64 t267)) (fun _ hk => hk.1.2) (.int .i64 t268)) (fun _ hk => hk.1.2) (.string t269)) (fun _ hk => hk.2) (.int .i64 t270)) (fun _ hk => hk.2) (.int .i64 t271)) (fun _ hk => hk.2) (.string t272)) (fun _ h_ => h_.1)) (fun _ h_ => h_.1))) hb); have n1_ := Aside0.mk (Kd.R_elder' (by (with_reducible repeat (first | apply Kd.R_alloc | apply Kd.R_drewN | apply Kd.R_drew)); exact (Kd.R_mono (Kd.R_mono (Kd.R_far (p := ⟨gb276, 2, none⟩) (Kd.R_far (p := ⟨gb276, 1, none⟩) (Kd.R_far (p := ⟨gb276, 0, none⟩) (Kd.R_far (p := ⟨gb275, 2, none⟩) (Kd.R_far (p := ⟨gb275, 1, none⟩) (Kd.R_far (p := ⟨gb275, 0, none⟩) (Kd.R_types (Kd.R_types HO266.out BK275.out (by decide)) BK276.out (by decide)) (fun _ hk => hk.1.2) (.int .i64 t267)) (fun _ hk => hk.1.2) (.int .i64 t268)) (fun _ hk => hk.1.2) (.string t269)) (fun _ hk => hk.2) (.int .i64 t270)) (fun _ hk => hk.2) (.int .i64 t271)) (fun _ hk => hk.2) (.string t272)) (fun _ h_ => h_.1)) (fun _ h_ => h_.1))) (Kd.R_base ho0) hb); have n2_ := Aside0.mk (Kd.R_lower (Kd.R_new' ho0 (Kd.R_lt (by (with_reducible repeat (first | apply Kd.R_alloc | apply Kd.R_drewN | apply Kd.R_drew)); exact (Kd.R_mono (Kd.R_mono (Kd.R_far (p := ⟨gb276, 2, none⟩) (Kd.R_far (p := ⟨gb276, 1, none⟩) (Kd.R_far (p := ⟨gb276, 0, none⟩) (Kd.R_far (p := ⟨gb275, 2, none⟩) (Kd.R_far (p := ⟨gb275, 1, none⟩) (Kd.R_far (p := ⟨gb275, 0, none⟩) (Kd.R_types (Kd.R_types HO266.out BK275.out (by decide)) BK276.out (by decide)) (fun _ hk => hk.1.2) (.int .i64 t267)) (fun _ hk => hk.1.2) (.int .i64 t268)) (fun _ hk => hk.1.2) (.string t269)) (fun _ hk => hk.2) (.int .i64 t270)) (fun _ hk => hk.2) (.int .i64 t271)) (fun _ hk => hk.2) (.string t272)) (fun _ h_ => h_.1)) (fun _ h_ => h_.1))))) (below_size bel_)); have n3_ := Aside0.mk (blk_below (g := gb250) (o := .cells #[.int .i64 4, .int .i64 2, .string (⟨#[97]⟩ : ByteArray)] 41 (0, 0)) (by (with_reducible repeat (first | refine blk_drewN ?_ _ | refine blk_drew ?_ | refine blk_alloc ?_ _)); refine blk_far ?_ NB250_276.out _; (with_reducible repeat (first | refine blk_drewN ?_ _ | refine blk_drew ?_ | refine blk_alloc ?_ _)); refine blk_far ?_ NB250_276.out _; (with_reducible repeat (first | refine blk_drewN ?_ _ | refine blk_drew ?_ | refine blk_alloc ?_ _)); refine blk_far ?_ NB250_276.out _; (with_reducible repeat (first | refine blk_drewN ?_ _ | refine blk_drew ?_ | refine blk_alloc ?_ _)); refine blk_far ?_ NB250_275.out _; (with_reducible repeat (first | refine blk_drewN ?_ _ | refine blk_drew ?_ | refine blk_alloc ?_ _)); refine blk_far ?_ NB250_275.out _; (with_reducible repeat (first | refine blk_drewN ?_ _ | refine blk_drew ?_ | refine blk_alloc ?_ _)); refine blk_far ?_ NB250_275.out _; (with_reducible repeat (first | refine blk_drewN ?_ _ | refine blk_drew ?_ | refine blk_alloc ?_ _)); exact BK250.out) hb); have n4_ := Aside0.mk (blk_below (g := gb275) (o := .cells #[.int .i64 t267, .int .i64 t268, .string t269] 41 (0, 0)) (by (with_reducible repeat (first | refine blk_drewN ?_ _ | refine blk_drew ?_ | refine blk_alloc ?_ _)); refine blk_far ?_ NB275_276.out _; (with_reducible repeat (first | refine blk_drewN ?_ _ | refine blk_drew ?_ | refine blk_alloc ?_ _)); refine blk_far ?_ NB275_276.out _; (with_reducible repeat (first | refine blk_drewN ?_ _ | refine blk_drew ?_ | refine blk_alloc ?_ _)); refine blk_far ?_ NB275_276.out _; (with_reducible repeat (first | refine blk_drewN ?_ _ | refine blk_drew ?_ | refine blk_alloc ?_ _)); refine blk_put (cs := #[.int .i64 t267, .int .i64 t268, .string (⟨#[]⟩ : ByteArray)]) ?_ 2 _ rfl; (with_reducible repeat (first | refine blk_drewN ?_ _ | refine blk_drew ?_ | refine blk_alloc ?_ _)); refine blk_put (cs := #[.int .i64 t267, .int .i64 0, .string (⟨#[]⟩ : ByteArray)]) ?_ 1 _ rfl; (with_reducible repeat (first | refine blk_drewN ?_ _ | refine blk_drew ?_ | refine blk_alloc ?_ _)); refine blk_put (cs := #[.int .i64 0, .int .i64 0, .string (⟨#[]⟩ : ByteArray)]) ?_ 0 _ rfl; (with_reducible repeat (first | refine blk_drewN ?_ _ | refine blk_drew ?_ | refine blk_alloc ?_ _)); exact BK275.out) hb); have n5_ := Aside0.mk (blk_below (g := gb276) (o := .cells #[.int .i64 t270, .int .i64 t271, .string t272] 41 (0, 0)) (by (with_reducible repeat (first | refine blk_drewN ?_ _ | refine blk_drew ?_ | refine blk_alloc ?_ _)); refine blk_put (cs := #[.int .i64 t270, .int .i64 t271, .string (⟨#[]⟩ : ByteArray)]) ?_ 2 _ rfl; (with_reducible repeat (first | refine blk_drewN ?_ _ | refine blk_drew ?_ | refine blk_alloc ?_ _)); refine blk_put (cs := #[.int .i64 t270, .int .i64 0, .string (⟨#[]⟩ : ByteArray)]) ?_ 1 _ rfl; (with_reducible repeat (first | refine blk_drewN ?_ _ | refine blk_drew ?_ | refine blk_alloc ?_ _)); refine blk_put (cs := #[.int .i64 0, .int .i64 0, .string (⟨#[]⟩ : ByteArray)]) ?_ 0 _ rfl; (with_reducible repeat (first | refine blk_drewN ?_ _ | refine blk_drew ?_ | refine blk_alloc ?_ _)); refine blk_far ?_ NB276_275.out _; (with_reducible repeat (first | refine blk_drewN ?_ _ | refine blk_drew ?_ | refine blk_alloc ?_ _)); refine blk_far ?_ NB276_275.out _; (with_reducible repeat (first | refine blk_drewN ?_ _ | refine blk_drew ?_ | refine blk_alloc ?_ _)); refine blk_far ?_ NB276_275.out _; (with_reducible repeat (first | refine blk_drewN ?_ _ | refine blk_drew ?_ | refine blk_alloc ?_ _)); exact BK276.out) hb); have n6_ := Aside0.mk (below_step bel_ hb); clear HO_15; clear HO266; clear BK250; clear BK275; clear BK276; clear HB; have HO_15 := n0_; have HO266 := n1_; have HO279 := n2_; have BK250 := n3_; have BK275 := n4_; have BK276 := n5_; have HB := n6_; clear n0_ n1_ n2_ n3_ n4_ n5_ n6_; (try clear hb); (try clear hb2); (try clear hk); (try clear hi); (try clear ho0); obtain ⟨Ao38, co38, eo38⟩ := Kd.R_slice HO279.out; subst eo38) | ((with_reducible refine gate_callee (f := 23) rfl ?_); refine goesL_ (some 45) rfl rfl Tryd.func23 (by kernel_rfl) rfl #[.slice Ao38 t277.length co38, .int .i64 0] rfl goa_ ?_; (with_reducible refine (line_Read.calls k1 _ _ t277 0 t280 t281 t282 t283 t284 _ ?side1 ?side2 A23.out).mono ?_); (case side1 => repeat (first | exact (Kd.R_reads' HO279.out).2.2 | (with_reducible refine Kd.C_alloc ?_ _) | (with_reducible refine Kd.C_drewN ?_ _) | (with_reducible refine Kd.C_drew ?_))); (case side2 => exact (Kd.R_reads' HO279.out).2.1); rintro e w39 ⟨rfl, hb⟩; refine ⟨_, rfl, ?_⟩; have n0_ := Aside0.mk (Kd.R_below (by (with_reducible repeat (first | apply Kd.R_alloc | apply Kd.R_drewN | apply Kd.R_drew)); exact HO_15.out) hb); have n1_ := Aside0.mk (Kd.R_below (by (with_reducible repeat (first | apply Kd.R_alloc | apply Kd.R_drewN | apply Kd.R_drew)); exact HO266.out) hb); have n2_ := Aside0.mk (Kd.R_below (by (with_reducible repeat (first | apply Kd.R_alloc | apply Kd.R_drewN | apply Kd.R_drew)); exact HO279.out) hb); have n3_ := blb_ BK250 hb; have n4_ := blb_ BK275 hb; have n5_ := blb_ BK276 hb; have n6_ := Aside0.mk (below_step bel_ hb); clear HO_15; clear HO266; clear HO279; clear BK250; clear BK275; clear BK276; clear HB; have HO_15 := n0_; have HO266 := n1_; have HO279 := n2_; have BK250 := n3_; have BK275 := n4_; have BK276 := n5_; have HB := n6_; clear n0_ n1_ n2_ n3_ n4_ n5_ n6_; clear hb) | ((with_reducible refine gate_dst (N := 11) rfl ?_); refine box_event ?hg (N := 11) ?hd (cs := #[.int .i64 0, .int .i64 0, .string (⟨#[]⟩ : ByteArray)]) (t := 41) ?hr ?_; (case hd => rfl); (case hg => rfl); (case hr => first | (go_simp; done) | (go_simp; rfl)); intro gb285 hg w40 hbox hb; have n0_ := Aside0.mk (Kd.R_below (by (with_reducible repeat (first | apply Kd.R_alloc | apply Kd.R_drewN | apply Kd.R_drew)); exact HO_15.out) hb); have n1_ := Aside0.mk (Kd.R_below (by (with_reducible repeat (first | apply Kd.R_alloc | apply Kd.R_drewN | apply Kd.R_drew)); exact HO266.out) hb); have n2_ := Aside0.mk (Kd.R_below (by (with_reducible repeat (first | apply Kd.R_alloc | apply Kd.R_drewN | apply Kd.R_drew)); exact HO279.out) hb); have n3_ := blb_ BK250 hb; have n4_ := blb_ BK275 hb; have n5_ := blb_ BK276 hb; have n6_ := Aside0.mk (below_step bel_ hb); have n7_ := Aside0.mk (hbox); have n8_ := Aside0.mk ((bsz_ hg : w.heap.size ≤ gb285)); have n9_ := Aside0.mk ((bsz_ hg : w.heap.size ≤ gb285)); have n10_ := Aside0.mk (bne_ BK250 hg : gb250 ≠ gb285); have n11_ := Aside0.mk (bng_ BK250 hg : gb285 ≠ gb250); have n12_ := Aside0.mk (bne_ BK275 hg : gb275 ≠ gb285); have n13_ := Aside0.mk (bng_ BK275 hg : gb285 ≠ gb275); have n14_ := Aside0.mk (bne_ BK276 hg : gb276 ≠ gb285); have n15_ := Aside0.mk (bng_ BK276 hg : gb285 ≠ gb276); clear HO_15; clear HO266; clear HO279; clear BK250; clear BK275; clear BK276; clear HB; have HO_15 := n0_; have HO266 := n1_; have HO279 := n2_; have BK250 := n3_; have BK275 := n4_; have BK276 := n5_; have HB := n6_; have BK285 := n7_; have GW285 := n8_; have GE285 := n9_; have NB250_285 := n10_; have NB285_250 := n11_; have NB275_285 := n12_; have NB285_275 := n13_; have NB276_285 := n14_; have NB285_276 := n15_; clear n0_ n1_ n2_ n3_ n4_ n5_ n6_ n7_ n8_ n9_ n10_ n11_ n12_ n13_ n14_ n15_; clear hb hbox hg; have hnb41 := NB285_250.out; have hnc41 := NB250_285.out; have hnb42 := NB285_275.out; have hnc42 := NB275_285.out; have hnb43 := NB285_276.out; have hnc43 := NB276_285.out; have hcz44_0 : w40.cell? ⟨gb285, 0, none⟩ = some (.int .i64 0) := (blk_cell BK285.out 0).trans rfl; have hcz44_1 : w40.cell? ⟨gb285, 1, none⟩ = some (.int .i64 0) := (blk_cell BK285.out 1).trans rfl; have hcz44_2 : w40.cell? ⟨gb285, 2, none⟩ = some (.string (⟨#[]⟩ : ByteArray)) := (blk_cell BK285.out 2).trans rfl; have hfz44_0 := blk_frozen BK285.out 0; have hfz44_1 := blk_frozen BK285.out 1; have hfz44_2 := blk_frozen BK285.out 2; have hcz45_0 : w40.cell? ⟨gb275, 0, none⟩ = some (.int .i64 t267) := (blk_cell BK275.out 0).trans rfl; have hcz45_1 : w40.cell? ⟨gb275, 1, none⟩ = some (.int .i64 t268) := (blk_cell BK275.out 1).trans rfl; have hcz45_2 : w40.cell? ⟨gb275, 2, none⟩ = some (.string t269) := (blk_cell BK275.out 2).trans rfl; have hfz45_0 := blk_frozen BK275.out 0; have hfz45_1 := blk_frozen BK275.out 1; have hfz45_2 := blk_frozen BK275.out 2; have hcz46_0 : w40.cell? ⟨gb276, 0, none⟩ = some (.int .i64 t270) := (blk_cell BK276.out 0).trans rfl; have hcz46_1 : w40.cell? ⟨gb276, 1, none⟩ = some (.int .i64 t271) := (blk_cell BK276.out 1).trans rfl; have hcz46_2 : w40.cell? ⟨gb276, 2, none⟩ = some (.string t272) := (blk_cell BK276.out 2).trans rfl; have hfz46_0 := blk_frozen BK276.out 0; have hfz46_1 := blk_frozen BK276.out 1; have hfz46_2 := blk_frozen BK276.out 2))
       go_ret
       exact ⟨rsl_, bel_⟩
      ·rw [if_neg c26] at H
       exact absurd H (by simp)
     ·rw [if_neg c25] at H
      exact absurd H (by simp)
    ·rw [if_neg c24] at H
     exact absurd H (by simp)

/-! ### ident_control: function 60 -/
def ident_control.f (a0 : Int) : Option (Bool) := if a0 < 32 then (some true) else (some (a0 == 127))
set_option maxHeartbeats 8000000 in
set_option maxRecDepth 100000 in
theorem ident_control.calls (a0 : Int) (r : Bool) (w : World) (h : ident_control.f a0 = some r) :
  Calls Tryd.prog 60 #[.int .u8 a0] w fun e w' => e = .returned (.bool r) ∧ Drawn0 w w' := by
 have H : (if a0 < 32 then (some true) else (some (a0 == 127))) = some r := h
 clear h
 by_cases c2 : a0 < 32
 ·rw [if_pos c2] at H
  have c2b0 : decide (a0 < 32) = true := decide_eq_true c2
  clear c2
  obtain rfl := Option.some.inj H
  go_enter Tryd.func60, Tryd.ntmps60
  go_wp2
  go_ret
  exact ⟨by first | rfl | (simp; done) | (simp [*]; done), drs_⟩
 ·rw [if_neg c2] at H
  have c2b0 : decide (a0 < 32) = false := decide_eq_false c2
  clear c2
  obtain rfl := Option.some.inj H
  go_enter Tryd.func60, Tryd.ntmps60
  go_wp2
  go_ret
  exact ⟨by first | rfl | (simp; done) | (simp [*]; done), drs_⟩

/-! ### ident_escaped: function 61 -/
def ident_escaped.f (a0 : Int) : Option (ByteArray) := if (a0 / 16) > 0 then (if 0 ≤ (a0 / 16) then (if (a0 / 16) ≤ (((a0 / 16) + 1) % 256) then (if (((a0 / 16) + 1) % 256) ≤ 16 then (if 1 + ((⟨#[48, 49, 50, 51, 52, 53, 54, 55, 56, 57, 97, 98, 99, 100, 101, 102]⟩ : ByteArray).extract ((a0 / 16) : Int).toNat ((((a0 / 16) + 1) % 256) : Int).toNat).size ≤ 9223372036854775807 then (if 0 ≤ (Go.bits .and .u8 a0 15) then (if (Go.bits .and .u8 a0 15) ≤ (((Go.bits .and .u8 a0 15) + 1) % 256) then (if (((Go.bits .and .u8 a0 15) + 1) % 256) ≤ 16 then (if ((⟨#[92]⟩ : ByteArray) ++ ((⟨#[48, 49, 50, 51, 52, 53, 54, 55, 56, 57, 97, 98, 99, 100, 101, 102]⟩ : ByteArray).extract ((a0 / 16) : Int).toNat ((((a0 / 16) + 1) % 256) : Int).toNat)).size + ((⟨#[48, 49, 50, 51, 52, 53, 54, 55, 56, 57, 97, 98, 99, 100, 101, 102]⟩ : ByteArray).extract ((Go.bits .and .u8 a0 15) : Int).toNat ((((Go.bits .and .u8 a0 15) + 1) % 256) : Int).toNat).size ≤ 9223372036854775807 then (if (((⟨#[92]⟩ : ByteArray) ++ ((⟨#[48, 49, 50, 51, 52, 53, 54, 55, 56, 57, 97, 98, 99, 100, 101, 102]⟩ : ByteArray).extract ((a0 / 16) : Int).toNat ((((a0 / 16) + 1) % 256) : Int).toNat)) ++ ((⟨#[48, 49, 50, 51, 52, 53, 54, 55, 56, 57, 97, 98, 99, 100, 101, 102]⟩ : ByteArray).extract ((Go.bits .and .u8 a0 15) : Int).toNat ((((Go.bits .and .u8 a0 15) + 1) % 256) : Int).toNat)).size + 1 ≤ 9223372036854775807 then (some ((((⟨#[92]⟩ : ByteArray) ++ ((⟨#[48, 49, 50, 51, 52, 53, 54, 55, 56, 57, 97, 98, 99, 100, 101, 102]⟩ : ByteArray).extract ((a0 / 16) : Int).toNat ((((a0 / 16) + 1) % 256) : Int).toNat)) ++ ((⟨#[48, 49, 50, 51, 52, 53, 54, 55, 56, 57, 97, 98, 99, 100, 101, 102]⟩ : ByteArray).extract ((Go.bits .and .u8 a0 15) : Int).toNat ((((Go.bits .and .u8 a0 15) + 1) % 256) : Int).toNat)) ++ (⟨#[32]⟩ : ByteArray))) else (none)) else (none)) else (none)) else (none)) else (none)) else (none)) else (none)) else (none)) else (none)) else (if 0 ≤ (Go.bits .and .u8 a0 15) then (if (Go.bits .and .u8 a0 15) ≤ (((Go.bits .and .u8 a0 15) + 1) % 256) then (if (((Go.bits .and .u8 a0 15) + 1) % 256) ≤ 16 then (if 1 + ((⟨#[48, 49, 50, 51, 52, 53, 54, 55, 56, 57, 97, 98, 99, 100, 101, 102]⟩ : ByteArray).extract ((Go.bits .and .u8 a0 15) : Int).toNat ((((Go.bits .and .u8 a0 15) + 1) % 256) : Int).toNat).size ≤ 9223372036854775807 then (if ((⟨#[92]⟩ : ByteArray) ++ ((⟨#[48, 49, 50, 51, 52, 53, 54, 55, 56, 57, 97, 98, 99, 100, 101, 102]⟩ : ByteArray).extract ((Go.bits .and .u8 a0 15) : Int).toNat ((((Go.bits .and .u8 a0 15) + 1) % 256) : Int).toNat)).size + 1 ≤ 9223372036854775807 then (some (((⟨#[92]⟩ : ByteArray) ++ ((⟨#[48, 49, 50, 51, 52, 53, 54, 55, 56, 57, 97, 98, 99, 100, 101, 102]⟩ : ByteArray).extract ((Go.bits .and .u8 a0 15) : Int).toNat ((((Go.bits .and .u8 a0 15) + 1) % 256) : Int).toNat)) ++ (⟨#[32]⟩ : ByteArray))) else (none)) else (none)) else (none)) else (none)) else (none))
set_option maxHeartbeats 8000000 in
set_option maxRecDepth 100000 in
theorem ident_escaped.calls (a0 : Int) (r : ByteArray) (w : World) (h : ident_escaped.f a0 = some r) :
  Calls Tryd.prog 61 #[.int .u8 a0] w fun e w' => e = .returned (.string r) ∧ Drawn0 w w' := by
 have H : (if (a0 / 16) > 0 then (if 0 ≤ (a0 / 16) then (if (a0 / 16) ≤ (((a0 / 16) + 1) % 256) then (if (((a0 / 16) + 1) % 256) ≤ 16 then (if 1 + ((⟨#[48, 49, 50, 51, 52, 53, 54, 55, 56, 57, 97, 98, 99, 100, 101, 102]⟩ : ByteArray).extract ((a0 / 16) : Int).toNat ((((a0 / 16) + 1) % 256) : Int).toNat).size ≤ 9223372036854775807 then (if 0 ≤ (Go.bits .and .u8 a0 15) then (if (Go.bits .and .u8 a0 15) ≤ (((Go.bits .and .u8 a0 15) + 1) % 256) then (if (((Go.bits .and .u8 a0 15) + 1) % 256) ≤ 16 then (if ((⟨#[92]⟩ : ByteArray) ++ ((⟨#[48, 49, 50, 51, 52, 53, 54, 55, 56, 57, 97, 98, 99, 100, 101, 102]⟩ : ByteArray).extract ((a0 / 16) : Int).toNat ((((a0 / 16) + 1) % 256) : Int).toNat)).size + ((⟨#[48, 49, 50, 51, 52, 53, 54, 55, 56, 57, 97, 98, 99, 100, 101, 102]⟩ : ByteArray).extract ((Go.bits .and .u8 a0 15) : Int).toNat ((((Go.bits .and .u8 a0 15) + 1) % 256) : Int).toNat).size ≤ 9223372036854775807 then (if (((⟨#[92]⟩ : ByteArray) ++ ((⟨#[48, 49, 50, 51, 52, 53, 54, 55, 56, 57, 97, 98, 99, 100, 101, 102]⟩ : ByteArray).extract ((a0 / 16) : Int).toNat ((((a0 / 16) + 1) % 256) : Int).toNat)) ++ ((⟨#[48, 49, 50, 51, 52, 53, 54, 55, 56, 57, 97, 98, 99, 100, 101, 102]⟩ : ByteArray).extract ((Go.bits .and .u8 a0 15) : Int).toNat ((((Go.bits .and .u8 a0 15) + 1) % 256) : Int).toNat)).size + 1 ≤ 9223372036854775807 then (some ((((⟨#[92]⟩ : ByteArray) ++ ((⟨#[48, 49, 50, 51, 52, 53, 54, 55, 56, 57, 97, 98, 99, 100, 101, 102]⟩ : ByteArray).extract ((a0 / 16) : Int).toNat ((((a0 / 16) + 1) % 256) : Int).toNat)) ++ ((⟨#[48, 49, 50, 51, 52, 53, 54, 55, 56, 57, 97, 98, 99, 100, 101, 102]⟩ : ByteArray).extract ((Go.bits .and .u8 a0 15) : Int).toNat ((((Go.bits .and .u8 a0 15) + 1) % 256) : Int).toNat)) ++ (⟨#[32]⟩ : ByteArray))) else (none)) else (none)) else (none)) else (none)) else (none)) else (none)) else (none)) else (none)) else (none)) else (if 0 ≤ (Go.bits .and .u8 a0 15) then (if (Go.bits .and .u8 a0 15) ≤ (((Go.bits .and .u8 a0 15) + 1) % 256) then (if (((Go.bits .and .u8 a0 15) + 1) % 256) ≤ 16 then (if 1 + ((⟨#[48, 49, 50, 51, 52, 53, 54, 55, 56, 57, 97, 98, 99, 100, 101, 102]⟩ : ByteArray).extract ((Go.bits .and .u8 a0 15) : Int).toNat ((((Go.bits .and .u8 a0 15) + 1) % 256) : Int).toNat).size ≤ 9223372036854775807 then (if ((⟨#[92]⟩ : ByteArray) ++ ((⟨#[48, 49, 50, 51, 52, 53, 54, 55, 56, 57, 97, 98, 99, 100, 101, 102]⟩ : ByteArray).extract ((Go.bits .and .u8 a0 15) : Int).toNat ((((Go.bits .and .u8 a0 15) + 1) % 256) : Int).toNat)).size + 1 ≤ 9223372036854775807 then (some (((⟨#[92]⟩ : ByteArray) ++ ((⟨#[48, 49, 50, 51, 52, 53, 54, 55, 56, 57, 97, 98, 99, 100, 101, 102]⟩ : ByteArray).extract ((Go.bits .and .u8 a0 15) : Int).toNat ((((Go.bits .and .u8 a0 15) + 1) % 256) : Int).toNat)) ++ (⟨#[32]⟩ : ByteArray))) else (none)) else (none)) else (none)) else (none)) else (none))) = some r := h
 clear h
 by_cases c2 : (a0 / 16) > 0
 ·rw [if_pos c2] at H
  have c2b0 : decide (0 < (a0 / 16)) = true := decide_eq_true c2
  clear c2
  obtain ⟨ji3, hji3⟩ : ∃ j_ : Int, (a0 / 16) = j_ := ⟨_, rfl⟩
  replace H : (if 0 ≤ (ji3) then (if (ji3) ≤ (((ji3) + 1) % 256) then (if (((ji3) + 1) % 256) ≤ 16 then (if 1 + ((⟨#[48, 49, 50, 51, 52, 53, 54, 55, 56, 57, 97, 98, 99, 100, 101, 102]⟩ : ByteArray).extract ((ji3) : Int).toNat ((((ji3) + 1) % 256) : Int).toNat).size ≤ 9223372036854775807 then (if 0 ≤ (Go.bits .and .u8 a0 15) then (if (Go.bits .and .u8 a0 15) ≤ (((Go.bits .and .u8 a0 15) + 1) % 256) then (if (((Go.bits .and .u8 a0 15) + 1) % 256) ≤ 16 then (if ((⟨#[92]⟩ : ByteArray) ++ ((⟨#[48, 49, 50, 51, 52, 53, 54, 55, 56, 57, 97, 98, 99, 100, 101, 102]⟩ : ByteArray).extract ((ji3) : Int).toNat ((((ji3) + 1) % 256) : Int).toNat)).size + ((⟨#[48, 49, 50, 51, 52, 53, 54, 55, 56, 57, 97, 98, 99, 100, 101, 102]⟩ : ByteArray).extract ((Go.bits .and .u8 a0 15) : Int).toNat ((((Go.bits .and .u8 a0 15) + 1) % 256) : Int).toNat).size ≤ 9223372036854775807 then (if (((⟨#[92]⟩ : ByteArray) ++ ((⟨#[48, 49, 50, 51, 52, 53, 54, 55, 56, 57, 97, 98, 99, 100, 101, 102]⟩ : ByteArray).extract ((ji3) : Int).toNat ((((ji3) + 1) % 256) : Int).toNat)) ++ ((⟨#[48, 49, 50, 51, 52, 53, 54, 55, 56, 57, 97, 98, 99, 100, 101, 102]⟩ : ByteArray).extract ((Go.bits .and .u8 a0 15) : Int).toNat ((((Go.bits .and .u8 a0 15) + 1) % 256) : Int).toNat)).size + 1 ≤ 9223372036854775807 then (some ((((⟨#[92]⟩ : ByteArray) ++ ((⟨#[48, 49, 50, 51, 52, 53, 54, 55, 56, 57, 97, 98, 99, 100, 101, 102]⟩ : ByteArray).extract ((ji3) : Int).toNat ((((ji3) + 1) % 256) : Int).toNat)) ++ ((⟨#[48, 49, 50, 51, 52, 53, 54, 55, 56, 57, 97, 98, 99, 100, 101, 102]⟩ : ByteArray).extract ((Go.bits .and .u8 a0 15) : Int).toNat ((((Go.bits .and .u8 a0 15) + 1) % 256) : Int).toNat)) ++ (⟨#[32]⟩ : ByteArray))) else (none)) else (none)) else (none)) else (none)) else (none)) else (none)) else (none)) else (none)) else (none)) = some r := by first | (rw [hji3] at H; exact H) | (simp only [hji3] at H ⊢; exact H)
  (try rw [hji3] at c2b0)
  by_cases c4 : 0 ≤ (ji3)
  ·rw [if_pos c4] at H
   have c4b0 := eq_true c4
   have c4b1 : decide (0 ≤ (ji3)) = true := decide_eq_true c4
   clear c4
   by_cases c5 : (ji3) ≤ (((ji3) + 1) % 256)
   ·rw [if_pos c5] at H
    have c5b0 := eq_true c5
    have c5b1 : decide ((ji3) ≤ (((ji3) + 1) % 256)) = true := decide_eq_true c5
    by_cases c6 : (((ji3) + 1) % 256) ≤ 16
    ·rw [if_pos c6] at H
     have c6b0 := eq_true c6
     have c6b1 : decide ((((ji3) + 1) % 256) ≤ 16) = true := decide_eq_true c6
     by_cases c7 : 1 + ((⟨#[48, 49, 50, 51, 52, 53, 54, 55, 56, 57, 97, 98, 99, 100, 101, 102]⟩ : ByteArray).extract ((ji3) : Int).toNat ((((ji3) + 1) % 256) : Int).toNat).size ≤ 9223372036854775807
     ·rw [if_pos c7] at H
      have c7b0 := eq_true c7
      have c7b1 : decide (1 + ((⟨#[48, 49, 50, 51, 52, 53, 54, 55, 56, 57, 97, 98, 99, 100, 101, 102]⟩ : ByteArray).extract ((ji3) : Int).toNat ((((ji3) + 1) % 256) : Int).toNat).size ≤ 9223372036854775807) = true := decide_eq_true c7
      try have c7b2 : (9223372036854775807 < 1 + ((⟨#[48, 49, 50, 51, 52, 53, 54, 55, 56, 57, 97, 98, 99, 100, 101, 102]⟩ : ByteArray).extract ((ji3) : Int).toNat ((((ji3) + 1) % 256) : Int).toNat).size) = False := eq_false (Nat.not_lt.2 c7)
      by_cases c8 : 0 ≤ (Go.bits .and .u8 a0 15)
      ·rw [if_pos c8] at H
       have c8b0 := eq_true c8
       have c8b1 : decide (0 ≤ (Go.bits .and .u8 a0 15)) = true := decide_eq_true c8
       clear c8
       by_cases c9 : (Go.bits .and .u8 a0 15) ≤ (((Go.bits .and .u8 a0 15) + 1) % 256)
       ·rw [if_pos c9] at H
        have c9b0 := eq_true c9
        have c9b1 : decide ((Go.bits .and .u8 a0 15) ≤ (((Go.bits .and .u8 a0 15) + 1) % 256)) = true := decide_eq_true c9
        by_cases c10 : (((Go.bits .and .u8 a0 15) + 1) % 256) ≤ 16
        ·rw [if_pos c10] at H
         have c10b0 := eq_true c10
         have c10b1 : decide ((((Go.bits .and .u8 a0 15) + 1) % 256) ≤ 16) = true := decide_eq_true c10
         by_cases c11 : ((⟨#[92]⟩ : ByteArray) ++ ((⟨#[48, 49, 50, 51, 52, 53, 54, 55, 56, 57, 97, 98, 99, 100, 101, 102]⟩ : ByteArray).extract ((ji3) : Int).toNat ((((ji3) + 1) % 256) : Int).toNat)).size + ((⟨#[48, 49, 50, 51, 52, 53, 54, 55, 56, 57, 97, 98, 99, 100, 101, 102]⟩ : ByteArray).extract ((Go.bits .and .u8 a0 15) : Int).toNat ((((Go.bits .and .u8 a0 15) + 1) % 256) : Int).toNat).size ≤ 9223372036854775807
         ·rw [if_pos c11] at H
          have c11b0 := eq_true c11
          have c11b1 : decide (((⟨#[92]⟩ : ByteArray) ++ ((⟨#[48, 49, 50, 51, 52, 53, 54, 55, 56, 57, 97, 98, 99, 100, 101, 102]⟩ : ByteArray).extract ((ji3) : Int).toNat ((((ji3) + 1) % 256) : Int).toNat)).size + ((⟨#[48, 49, 50, 51, 52, 53, 54, 55, 56, 57, 97, 98, 99, 100, 101, 102]⟩ : ByteArray).extract ((Go.bits .and .u8 a0 15) : Int).toNat ((((Go.bits .and .u8 a0 15) + 1) % 256) : Int).toNat).size ≤ 9223372036854775807) = true := decide_eq_true c11
          try have c11b2 : (9223372036854775807 < ((⟨#[92]⟩ : ByteArray) ++ ((⟨#[48, 49, 50, 51, 52, 53, 54, 55, 56, 57, 97, 98, 99, 100, 101, 102]⟩ : ByteArray).extract ((ji3) : Int).toNat ((((ji3) + 1) % 256) : Int).toNat)).size + ((⟨#[48, 49, 50, 51, 52, 53, 54, 55, 56, 57, 97, 98, 99, 100, 101, 102]⟩ : ByteArray).extract ((Go.bits .and .u8 a0 15) : Int).toNat ((((Go.bits .and .u8 a0 15) + 1) % 256) : Int).toNat).size) = False := eq_false (Nat.not_lt.2 c11)
          by_cases c12 : (((⟨#[92]⟩ : ByteArray) ++ ((⟨#[48, 49, 50, 51, 52, 53, 54, 55, 56, 57, 97, 98, 99, 100, 101, 102]⟩ : ByteArray).extract ((ji3) : Int).toNat ((((ji3) + 1) % 256) : Int).toNat)) ++ ((⟨#[48, 49, 50, 51, 52, 53, 54, 55, 56, 57, 97, 98, 99, 100, 101, 102]⟩ : ByteArray).extract ((Go.bits .and .u8 a0 15) : Int).toNat ((((Go.bits .and .u8 a0 15) + 1) % 256) : Int).toNat)).size + 1 ≤ 9223372036854775807
          ·rw [if_pos c12] at H
           have c12b0 := eq_true c12
           have c12b1 : decide ((((⟨#[92]⟩ : ByteArray) ++ ((⟨#[48, 49, 50, 51, 52, 53, 54, 55, 56, 57, 97, 98, 99, 100, 101, 102]⟩ : ByteArray).extract ((ji3) : Int).toNat ((((ji3) + 1) % 256) : Int).toNat)) ++ ((⟨#[48, 49, 50, 51, 52, 53, 54, 55, 56, 57, 97, 98, 99, 100, 101, 102]⟩ : ByteArray).extract ((Go.bits .and .u8 a0 15) : Int).toNat ((((Go.bits .and .u8 a0 15) + 1) % 256) : Int).toNat)).size + 1 ≤ 9223372036854775807) = true := decide_eq_true c12
           try have c12b2 : (9223372036854775807 < (((⟨#[92]⟩ : ByteArray) ++ ((⟨#[48, 49, 50, 51, 52, 53, 54, 55, 56, 57, 97, 98, 99, 100, 101, 102]⟩ : ByteArray).extract ((ji3) : Int).toNat ((((ji3) + 1) % 256) : Int).toNat)) ++ ((⟨#[48, 49, 50, 51, 52, 53, 54, 55, 56, 57, 97, 98, 99, 100, 101, 102]⟩ : ByteArray).extract ((Go.bits .and .u8 a0 15) : Int).toNat ((((Go.bits .and .u8 a0 15) + 1) % 256) : Int).toNat)).size + 1) = False := eq_false (Nat.not_lt.2 c12)
           obtain rfl := Option.some.inj H
           go_enter Tryd.func61, Tryd.ntmps61
           go_wp2
           go_ret
           exact ⟨by first | rfl | (simp; done) | (simp only [← hji3] <;> (first | rfl | simp)) | (simp [*]; done), drs_⟩
          ·rw [if_neg c12] at H
           exact absurd H (by simp)
         ·rw [if_neg c11] at H
          exact absurd H (by simp)
        ·rw [if_neg c10] at H
         exact absurd H (by simp)
       ·rw [if_neg c9] at H
        exact absurd H (by simp)
      ·rw [if_neg c8] at H
       exact absurd H (by simp)
     ·rw [if_neg c7] at H
      exact absurd H (by simp)
    ·rw [if_neg c6] at H
     exact absurd H (by simp)
   ·rw [if_neg c5] at H
    exact absurd H (by simp)
  ·rw [if_neg c4] at H
   exact absurd H (by simp)
 ·rw [if_neg c2] at H
  have c2b0 : decide (0 < (a0 / 16)) = false := decide_eq_false c2
  clear c2
  by_cases c13 : 0 ≤ (Go.bits .and .u8 a0 15)
  ·rw [if_pos c13] at H
   have c13b0 := eq_true c13
   have c13b1 : decide (0 ≤ (Go.bits .and .u8 a0 15)) = true := decide_eq_true c13
   clear c13
   by_cases c14 : (Go.bits .and .u8 a0 15) ≤ (((Go.bits .and .u8 a0 15) + 1) % 256)
   ·rw [if_pos c14] at H
    have c14b0 := eq_true c14
    have c14b1 : decide ((Go.bits .and .u8 a0 15) ≤ (((Go.bits .and .u8 a0 15) + 1) % 256)) = true := decide_eq_true c14
    by_cases c15 : (((Go.bits .and .u8 a0 15) + 1) % 256) ≤ 16
    ·rw [if_pos c15] at H
     have c15b0 := eq_true c15
     have c15b1 : decide ((((Go.bits .and .u8 a0 15) + 1) % 256) ≤ 16) = true := decide_eq_true c15
     by_cases c16 : 1 + ((⟨#[48, 49, 50, 51, 52, 53, 54, 55, 56, 57, 97, 98, 99, 100, 101, 102]⟩ : ByteArray).extract ((Go.bits .and .u8 a0 15) : Int).toNat ((((Go.bits .and .u8 a0 15) + 1) % 256) : Int).toNat).size ≤ 9223372036854775807
     ·rw [if_pos c16] at H
      have c16b0 := eq_true c16
      have c16b1 : decide (1 + ((⟨#[48, 49, 50, 51, 52, 53, 54, 55, 56, 57, 97, 98, 99, 100, 101, 102]⟩ : ByteArray).extract ((Go.bits .and .u8 a0 15) : Int).toNat ((((Go.bits .and .u8 a0 15) + 1) % 256) : Int).toNat).size ≤ 9223372036854775807) = true := decide_eq_true c16
      try have c16b2 : (9223372036854775807 < 1 + ((⟨#[48, 49, 50, 51, 52, 53, 54, 55, 56, 57, 97, 98, 99, 100, 101, 102]⟩ : ByteArray).extract ((Go.bits .and .u8 a0 15) : Int).toNat ((((Go.bits .and .u8 a0 15) + 1) % 256) : Int).toNat).size) = False := eq_false (Nat.not_lt.2 c16)
      by_cases c17 : ((⟨#[92]⟩ : ByteArray) ++ ((⟨#[48, 49, 50, 51, 52, 53, 54, 55, 56, 57, 97, 98, 99, 100, 101, 102]⟩ : ByteArray).extract ((Go.bits .and .u8 a0 15) : Int).toNat ((((Go.bits .and .u8 a0 15) + 1) % 256) : Int).toNat)).size + 1 ≤ 9223372036854775807
      ·rw [if_pos c17] at H
       have c17b0 := eq_true c17
       have c17b1 : decide (((⟨#[92]⟩ : ByteArray) ++ ((⟨#[48, 49, 50, 51, 52, 53, 54, 55, 56, 57, 97, 98, 99, 100, 101, 102]⟩ : ByteArray).extract ((Go.bits .and .u8 a0 15) : Int).toNat ((((Go.bits .and .u8 a0 15) + 1) % 256) : Int).toNat)).size + 1 ≤ 9223372036854775807) = true := decide_eq_true c17
       try have c17b2 : (9223372036854775807 < ((⟨#[92]⟩ : ByteArray) ++ ((⟨#[48, 49, 50, 51, 52, 53, 54, 55, 56, 57, 97, 98, 99, 100, 101, 102]⟩ : ByteArray).extract ((Go.bits .and .u8 a0 15) : Int).toNat ((((Go.bits .and .u8 a0 15) + 1) % 256) : Int).toNat)).size + 1) = False := eq_false (Nat.not_lt.2 c17)
       obtain rfl := Option.some.inj H
       go_enter Tryd.func61, Tryd.ntmps61
       go_wp2
       go_ret
       exact ⟨by first | rfl | (simp; done) | (simp [*]; done), drs_⟩
      ·rw [if_neg c17] at H
       exact absurd H (by simp)
     ·rw [if_neg c16] at H
      exact absurd H (by simp)
    ·rw [if_neg c15] at H
     exact absurd H (by simp)
   ·rw [if_neg c14] at H
    exact absurd H (by simp)
  ·rw [if_neg c13] at H
   exact absurd H (by simp)

/-! ### ident_digit: function 74 -/
def ident_digit.f (a0 : Int) : Option (Bool) := if a0 ≥ 48 then (some (decide (a0 ≤ 57))) else (some false)
set_option maxHeartbeats 8000000 in
set_option maxRecDepth 100000 in
theorem ident_digit.calls (a0 : Int) (r : Bool) (w : World) (h : ident_digit.f a0 = some r) :
  Calls Tryd.prog 74 #[.int .u8 a0] w fun e w' => e = .returned (.bool r) ∧ Drawn0 w w' := by
 have H : (if a0 ≥ 48 then (some (decide (a0 ≤ 57))) else (some false)) = some r := h
 clear h
 by_cases c2 : a0 ≥ 48
 ·rw [if_pos c2] at H
  have c2b0 : decide (48 ≤ a0) = true := decide_eq_true c2
  clear c2
  obtain rfl := Option.some.inj H
  go_enter Tryd.func74, Tryd.ntmps74
  go_wp2
  go_ret
  exact ⟨by first | rfl | (simp; done) | (simp [*]; done), drs_⟩
 ·rw [if_neg c2] at H
  have c2b0 : decide (48 ≤ a0) = false := decide_eq_false c2
  clear c2
  obtain rfl := Option.some.inj H
  go_enter Tryd.func74, Tryd.ntmps74
  go_wp2
  go_ret
  exact ⟨by first | rfl | (simp; done) | (simp [*]; done), drs_⟩

end Go.Proofs.YtofdhdafabmhmaaDoor.PLa
end
section
/- The table of the powers of ten, carried along a run. Conditions: none. -/
namespace Go.Proofs.YtofdhdafabmhmaaDoor.Tbl
open Go.RowKit
def Tab0 (w : World) : Prop := Lib.TabIs Tryd.prog w "internal/strconv.uint64pow10" .u64 Lib.pow10Tab
theorem glob : ∃ g, Tryd.prog.globalNamed "internal/strconv.uint64pow10" = some g := ⟨3, by kernel_rfl⟩
theorem tab0_stays {w W : World} (h : Tab0 w) (hb : Below w.heap.size w W) : Tab0 W := by
  obtain ⟨g, hg⟩ := glob
  exact Joins.tab_stays hg h hb (Nat.le_refl _)
end Go.Proofs.YtofdhdafabmhmaaDoor.Tbl
end
section
namespace Go.Proofs.YtofdhdafabmhmaaDoor.PLa
open Go.RowKit Go.Proofs.YtofdhdafabmhmaaDoorW.PrintWords Go.Proofs.YtofdhdafabmhmaaDoorW.PrintLast Go.Proofs.YtofdhdafabmhmaaDoorW.PrintMore
attribute [local go_sem] max2_int min2_int max_two min_two max_three min_three max_four min_four
open Go.Proofs.YtofdhdafabmhmaaDoor.Opn Go.Proofs.YtofdhdafabmhmaaDoor.Giv

/-! ### ident_Write: function 42 -/
def ident_Write.sub (s : ByteArray) (i : Int) : ByteArray := s.extract i.toNat (wrap64 (i + 1)).toNat
def ident_Write.first (s : ByteArray) (i : Int) : Bool := decide (i = 0) || (decide (i = 1) && decide (bt s 0 = 45))
def ident_Write.one (s : ByteArray) (i : Int) : Option ByteArray :=
 (token_Letter.f (bt s i)).bind fun t1 => (ident_digit.f (bt s i)).bind fun t2 => (ident_control.f (bt s i)).bind fun t3 => (ident_escaped.f (bt s i)).bind fun t4 =>
  some (if t1 = true then ident_Write.sub s i else if bt s i = 45 ∧ 1 < (s.size : Int) then ident_Write.sub s i else if t2 = true ∧ ident_Write.first s i = false then ident_Write.sub s i
   else if t2 = true then t4 else if t3 = true then t4 else (⟨#[92]⟩ : ByteArray) ++ ident_Write.sub s i)

/-- The pieces of the first bytes, one behind the other. -/
def ident_Write.cat (s : ByteArray) : Nat → Option (List UInt8)
 | 0 => some []
 | n + 1 => (ident_Write.cat s n).bind fun l => (ident_Write.one s n).bind fun r => if r.size ≤ 8 then some (l ++ r.data.toList) else none
theorem ident_Write.cat_lt (s : ByteArray) : ∀ {n : Nat} {l : List UInt8}, ident_Write.cat s n = some l → ∀ {i : Nat}, i < n → ∃ c r, ident_Write.cat s i = some c ∧ ident_Write.one s i = some r ∧ r.size ≤ 8 ∧ ident_Write.cat s (i + 1) = some (c ++ r.data.toList)
 | 0, _, _, _, h => absurd h (Nat.not_lt_zero _)
 | n + 1, l, h, i, hi => by
  simp only [ident_Write.cat] at h
  obtain ⟨c, h1, h⟩ := Option.bind_eq_some_iff.1 h
  obtain ⟨r, h2, h⟩ := Option.bind_eq_some_iff.1 h
  by_cases h3 : r.size ≤ 8
  ·rw [if_pos h3] at h
   rcases Nat.lt_or_ge i n with h4 | h4
   ·exact ident_Write.cat_lt s h1 h4
   ·obtain rfl : i = n := by omega
    refine ⟨c, r, h1, h2, h3, ?_⟩
    show (ident_Write.cat s i).bind _ = _
    rw [h1]
    show (ident_Write.one s i).bind _ = _
    rw [h2]
    exact if_pos h3
  ·rw [if_neg h3] at h
   cases h
theorem ident_Write.cat_len (s : ByteArray) : ∀ (n : Nat) (l : List UInt8), ident_Write.cat s n = some l → l.length ≤ n * 8
 | 0, l, h => by
  obtain rfl := Option.some.inj h
  simp
 | n + 1, l, h => by
  simp only [ident_Write.cat] at h
  obtain ⟨c, h1, h⟩ := Option.bind_eq_some_iff.1 h
  obtain ⟨r, h2, h⟩ := Option.bind_eq_some_iff.1 h
  by_cases h3 : r.size ≤ 8
  ·rw [if_pos h3] at h
   obtain rfl := Option.some.inj h
   have := ident_Write.cat_len s n c h1
   have h5 : r.data.toList.length = r.size := by simp
   rw [List.length_append, h5]
   omega
  ·rw [if_neg h3] at h
   cases h

set_option maxHeartbeats 8000000 in
set_option maxRecDepth 100000 in
theorem ident_Write.one_calls (cb : Nat) (i : Int) (s : ByteArray) (r : ByteArray) (w : World) (hi0 : 0 ≤ i) (hi1 : i < (s.size : Int)) (hc : w.cell? ⟨cb, 0, none⟩ = some (.string s)) (hs : s.size ≤ 1000000) (h : ident_Write.one s i = some r) :
  Calls Tryd.prog 73 #[.int .i64 i, .int .u8 (bt s i), .pointer (some ⟨cb, 0, none⟩)] w fun e w' => e = .returned (.string r) ∧ Drawn0 w w' := by
 obtain ⟨t1, ht1, h⟩ := Option.bind_eq_some_iff.1 h
 obtain ⟨t2, ht2, h⟩ := Option.bind_eq_some_iff.1 h
 obtain ⟨t3, ht3, h⟩ := Option.bind_eq_some_iff.1 h
 obtain ⟨t4, ht4, h⟩ := Option.bind_eq_some_iff.1 h
 replace h := Option.some.inj h
 have T1 := Aside0.mk ht1
 have T2 := Aside0.mk ht2
 have T3 := Aside0.mk ht3
 have T4 := Aside0.mk ht4
 clear ht1 ht2 ht3 ht4
 have hx0 : ∀ h : 0 < s.size, ((s[0].toNat : Nat) : Int) = bt s 0 := fun h => bt_at s 0 h
 have k0 : ((0 : Int) < (s.size : Int)) = True := eq_true (by omega)
 have k0b : (0 < s.size) = True := eq_true (by omega)
 have hw1 : wrap64 (i + 1) = i + 1 := by unfold wrap64; omega
 have q0 : (0 ≤ i) = True := eq_true hi0
 have q2 : (i ≤ wrap64 (i + 1)) = True := eq_true (by omega)
 have q3 : (wrap64 (i + 1) ≤ (s.size : Int)) = True := eq_true (by omega)
 have q2b : decide (i ≤ wrap64 (i + 1)) = true := decide_eq_true (by omega)
 have q3b : decide (wrap64 (i + 1) ≤ (s.size : Int)) = true := decide_eq_true (by omega)
 have q0b : decide (0 ≤ i) = true := decide_eq_true hi0
 have qs : (1 + (s.extract i.toNat (wrap64 (i + 1)).toNat).size ≤ 9223372036854775807) = True := eq_true (by rw [ByteArray.size_extract]; omega)
 have qs2 : (9223372036854775807 < 1 + (s.extract i.toNat (wrap64 (i + 1)).toNat).size) = False := eq_false (by rw [ByteArray.size_extract]; omega)
 have qs3 : (9223372036854775807 < 1 + ((wrap64 (i + 1)).toNat - i.toNat)) = False := eq_false (by rw [hw1]; omega)
 have hF : (∃ b0 b1 b2 : Bool, (i == 0) = b0 ∧ (i == 1) = b1 ∧ (bt s 0 == 45) = b2 ∧ ident_Write.first s i = (b0 || (b1 && b2))) := ⟨_, _, _, rfl, rfl, rfl, rfl⟩
 obtain ⟨b0, b1, b2, p0, p1, p2, hF⟩ := hF
 have hD : (∃ b3 b4 : Bool, (bt s i == 45) = b3 ∧ decide (1 < (s.size : Int)) = b4 ∧ decide (1 < s.size) = b4) := ⟨_, _, rfl, rfl, by simp only [decide_eq_decide]; omega⟩
 obtain ⟨b3, b4, p3, p4, p4b⟩ := hD
 have h' : r = (if t1 = true then ident_Write.sub s i else if b3 = true ∧ b4 = true then ident_Write.sub s i else if t2 = true ∧ (b0 || (b1 && b2)) = false then ident_Write.sub s i
   else if t2 = true then t4 else if t3 = true then t4 else (⟨#[92]⟩ : ByteArray) ++ ident_Write.sub s i) := by
  rw [← h, hF]
  simp only [← p3, ← p4, beq_iff_eq, decide_eq_true_eq]
 unfold ident_Write.sub at h'
 clear h hF hw1 hi0 hi1 hs
 have HP : (b0 = true) ∨ (b0 = false ∧ b1 = true) ∨ (b0 = false ∧ b1 = false) := by cases b0 <;> cases b1 <;> simp
 rcases HP with rfl | ⟨rfl, rfl⟩ | ⟨rfl, rfl⟩
 all_goals
  cases t1 with
  | true =>
   simp only [if_pos] at h'
   subst h'
   go_enter Tryd.func73, Tryd.ntmps73
   go_wp2_with (first
    | (go_at_call 54; refine (token_Letter.calls _ _ _ T1.out).mono ?_; rintro e w5 ⟨rfl, ⟨nd, rfl⟩⟩))
   go_ret
   exact ⟨rfl, drs_⟩
  | false =>
   simp only [Bool.false_eq_true, if_false] at h'
   have HQ : (b3 = true ∧ b4 = true) ∨ (b3 = true ∧ b4 = false) ∨ b3 = false := by cases b3 <;> cases b4 <;> simp
   rcases HQ with ⟨rfl, rfl⟩ | HQ
   ·simp only [and_self, if_true] at h'
    subst h'
    go_enter Tryd.func73, Tryd.ntmps73
    go_wp2_with (first
     | (go_at_call 54; refine (token_Letter.calls _ _ _ T1.out).mono ?_; rintro e w5 ⟨rfl, ⟨nd, rfl⟩⟩))
    go_ret
    exact ⟨rfl, drs_⟩
   ·rw [if_neg (by rcases HQ with ⟨_, h⟩ | h <;> simp [h])] at h'
    rcases HQ with ⟨rfl, rfl⟩ | rfl
    all_goals
     cases t2 with
     | true =>
      cases b2
      all_goals
       simp at h'
       subst h'
       go_enter Tryd.func73, Tryd.ntmps73
       go_wp2_with (first
        | (go_at_call 54; refine (token_Letter.calls _ _ _ T1.out).mono ?_; rintro e w5 ⟨rfl, ⟨nd, rfl⟩⟩)
        | (go_at_call 74; refine (ident_digit.calls _ _ _ T2.out).mono ?_; rintro e w5 ⟨rfl, ⟨nd2, rfl⟩⟩)
        | (go_at_call 61; refine (ident_escaped.calls _ _ _ T4.out).mono ?_; rintro e w5 ⟨rfl, ⟨nd4, rfl⟩⟩))
       go_ret
       exact ⟨rfl, drs_⟩
     | false =>
      cases t3 <;> cases b2
      all_goals
       simp at h'
       subst h'
       go_enter Tryd.func73, Tryd.ntmps73
       go_wp2_with (first
        | (go_at_call 54; refine (token_Letter.calls _ _ _ T1.out).mono ?_; rintro e w5 ⟨rfl, ⟨nd, rfl⟩⟩)
        | (go_at_call 74; refine (ident_digit.calls _ _ _ T2.out).mono ?_; rintro e w5 ⟨rfl, ⟨nd2, rfl⟩⟩)
        | (go_at_call 60; refine (ident_control.calls _ _ _ T3.out).mono ?_; rintro e w5 ⟨rfl, ⟨nd3, rfl⟩⟩)
        | (go_at_call 61; refine (ident_escaped.calls _ _ _ T4.out).mono ?_; rintro e w5 ⟨rfl, ⟨nd4, rfl⟩⟩))
       go_ret
       exact ⟨rfl, drs_⟩

theorem ident_Write.isB {T e : TypeId} {B b : Nat} {l : List Value} {w : World} (h : Lib.IsBuilder T e B b l w) (n : Nat) : Lib.IsBuilder T e B b l (w.drewN n) := h
theorem ident_Write.belowN {B : Nat} {a w : World} (h : Below B a w) (n : Nat) : Below B a (w.drewN n) := h.trans ⟨rfl, rfl, rfl, Nat.le_refl _, fun _ _ => rfl⟩
theorem ident_Write.built {T e : TypeId} {B b : Nat} {l : List UInt8} {r : ByteArray} {w : World} (h : Lib.BuilderAt T e B b (.pointer (some ⟨b, 0, none⟩)) (Lib.byteCells l ++ Lib.strCells r) w) : Lib.IsBuilder T e B b (Lib.byteCells (l ++ r.data.toList)) w := Or.inr (by
 unfold Lib.byteCells Lib.strCells at *
 rw [List.map_append]
 exact h)
theorem ident_Write.short {c : List UInt8} {r s : ByteArray} {i : Nat} (h1 : c.length ≤ i * 8) (h2 : r.size ≤ 8) (h3 : s.size ≤ 1000000) (h4 : (i : Int) < (s.size : Int)) : (Lib.byteCells c).length + r.size ≤ 140737488355328 := by
 unfold Lib.byteCells
 rw [List.length_map]
 omega
theorem ident_Write.next {i : Nat} {s : ByteArray} (h1 : (i : Int) < (s.size : Int)) (hs : s.size ≤ 1000000) : wrap64 ((i : Int) + 1) = ((i + 1 : Nat) : Int) := by
 unfold wrap64
 omega
theorem ident_Write.less {i : Nat} {s : ByteArray} (h1 : (i : Int) < (s.size : Int)) (hw : wrap64 ((i : Int) + 1) = ((i + 1 : Nat) : Int)) : s.size - (intOf (.int .i64 (wrap64 ((i : Int) + 1)))).toNat < s.size - (intOf (.int .i64 (i : Int))).toNat := by
 rw [hw]
 show s.size - (((i + 1 : Nat) : Int)).toNat < s.size - ((i : Int)).toNat
 rw [Int.toNat_natCast, Int.toNat_natCast]
 clear hw
 omega
theorem ident_Write.small {i : Int} {s : ByteArray} (h0 : 0 ≤ i) (h1 : i < (s.size : Int)) (hs : s.size ≤ 1000000) : wrap64 (i + 1) = i + 1 := by unfold wrap64; omega

set_option maxHeartbeats 4000000 in
set_option maxRecDepth 100000 in
theorem ident_Write.each_calls (cb : Nat) (s : ByteArray) (l : List UInt8) (w : World) (hc : w.cell? ⟨cb, 0, none⟩ = some (.string s)) (hs : s.size ≤ 1000000) (hl : ident_Write.cat s s.size = some l) :
  Calls Tryd.prog 58 #[.string s, .func (.func 73) #[] #[.pointer (some ⟨cb, 0, none⟩)]] w fun e w' => e = .returned (.string ⟨l.toArray⟩) ∧ Below w.heap.size w w' := by
 have hcl := World.block_lt_of_cell? w _ hc
 have HC := Aside0.mk hc
 have HL := Aside0.mk hl
 have HS := Aside0.mk hs
 clear hc hl hs
 go_enter Tryd.func58, Tryd.ntmps58
 go_wp2
 go_loopw [9] (fun v9 wr => ∃ (i : Nat) (c : List UInt8), i ≤ s.size ∧ v9 = .int .i64 i ∧ Aside0 (ident_Write.cat s i = some c) ∧ Aside0 (Lib.IsBuilder 100 5 w.heap.size w.heap.size (Lib.byteCells c) wr) ∧ Aside0 (Below w.heap.size w wr))
  (fun v9 _ => s.size - (intOf v9).toNat)
 case atStart => exact ⟨0, [], Nat.zero_le _, rfl, ⟨rfl⟩, ⟨Lib.fresh_isBuilder _ _ w⟩, ⟨(Below.refl _ _).alloc (Nat.le_refl _) _⟩⟩
 case round =>
  obtain ⟨i, c, hi, rfl, HK, HB, HW⟩ := hrel
  by_cases hlt : i < s.size
  ·have q0 : (0 ≤ (i : Int)) = True := eq_true (by omega)
   have q1 : ((i : Int) < (s.size : Int)) = True := eq_true (by omega)
   have q2 : decide ((i : Int) < (s.size : Int)) = true := decide_eq_true (by omega)
   have q3 : decide (i < s.size) = true := decide_eq_true hlt
   have hx : ∀ h : i < s.size, ((s[i].toNat : Nat) : Int) = bt s i := fun h => bt_at s i h
   have q4 : (i < s.size) = True := eq_true hlt
   obtain ⟨c', r, h1, h2, h3, h4⟩ := ident_Write.cat_lt s HL.out hlt
   obtain rfl := Option.some.inj (HK.out.symm.trans h1)
   have HN := Aside0.mk h4
   have HO := Aside0.mk h2
   have HR := Aside0.mk h3
   have hcw := (HW.out.cell hcl).trans HC.out
   have HCW := Aside0.mk hcw
   have HLEN := Aside0.mk (ident_Write.short (ident_Write.cat_len s i c HK.out) HR.out HS.out (q1.mpr trivial))
   have H0 := Aside0.mk (q0.mpr trivial)
   have H1 := Aside0.mk (q1.mpr trivial)
   have HSW := Aside0.mk HW.out.size
   clear h1 h2 h3 h4 hcw hlt hi
   go_wp2_with (first
    | (go_at_call 73; refine (ident_Write.one_calls cb i s r _ H0.out H1.out HCW.out HS.out HO.out).mono ?_; rintro e w5 ⟨rfl, ⟨nd, rfl⟩⟩)
    | (go_at_call 63; refine (Giv.writeString_calls w.heap.size w.heap.size (Lib.byteCells c) r _ ?g1 HLEN.out ?g2).mono ?_; (case g1 => repeat (first | (with_reducible exact HB.out) | (with_reducible apply ident_Write.isB))); (case g2 => exact HSW.out); rintro e w6 ⟨rfl, hb6, hbe6⟩; have HW6 := Aside0.mk (Below.trans (by repeat (first | (with_reducible exact HW.out) | (with_reducible apply ident_Write.belowN))) hbe6); clear hbe6))
   have HWR := Aside0.mk (ident_Write.next H1.out HS.out)
   go_roundw
   case rel => exact ⟨i + 1, c ++ r.data.toList, by have := H1.out; omega, by rw [HWR.out], HN, ⟨ident_Write.built hb6⟩, HW6⟩
   case measure => exact ident_Write.less H1.out HWR.out
  ·have hie : i = s.size := by omega
   subst hie
   have q2 : decide ((s.size : Int) < (s.size : Int)) = false := decide_eq_false (by omega)
   have q3 : decide (s.size < s.size) = false := decide_eq_false (by omega)
   obtain rfl := Option.some.inj (HK.out.symm.trans HL.out)
   have HSW := Aside0.mk HW.out.size
   clear hlt
   go_wp2_with (first
    | (go_at_call 64; refine (Tryd.Builder_String_any w.heap.size w.heap.size c _ HB.out HSW.out).mono ?_; rintro e w6 ⟨rfl, hb6⟩))
   go_ret
   exact ⟨rfl, HW.out.trans hb6⟩

theorem ident_Write.boxed (w : World) (s : ByteArray) (T : TypeId) : (w.alloc (.cells #[.string s] T)).cell? ⟨w.heap.size, 0, none⟩ = some (.string s) := by
 simp
theorem ident_Write.cellN {w : World} {p : Addr} {v : Value} (h : w.cell? p = some v) (n : Nat) : (w.drewN n).cell? p = some v := h
theorem ident_Write.belowA (w : World) (o : Obj) : Below w.heap.size w (w.alloc o) := below_alloc (Below.refl _ _) _

def ident_Write.f (s : ByteArray) : Option ByteArray := (ident_Name.f s).bind fun t => if t = true then (if s.size ≤ 1000000 then (ident_Write.cat s s.size).bind fun l => some ⟨l.toArray⟩ else none) else some ⟨#[]⟩
set_option maxHeartbeats 2000000 in
set_option maxRecDepth 100000 in
theorem ident_Write.calls (s : ByteArray) (r : ByteArray) (w : World) (h : ident_Write.f s = some r) :
  Calls Tryd.prog 42 #[.string s] w fun e w' => e = .returned (.string r) ∧ Below w.heap.size w w' := by
 obtain ⟨t, ht, h⟩ := Option.bind_eq_some_iff.1 h
 have HT := Aside0.mk ht
 clear ht
 cases t with
 | false =>
  obtain rfl := Option.some.inj h
  go_enter Tryd.func42, Tryd.ntmps42
  go_wp2_with (first
   | (go_at_call 72; refine (ident_Name.calls _ _ _ HT.out).mono ?_; rintro e w5 ⟨rfl, ⟨nd, rfl⟩⟩))
  go_ret
  exact ⟨rfl, by repeat (first | (with_reducible exact ident_Write.belowA _ _) | (with_reducible apply ident_Write.belowN))⟩
 | true =>
  rw [if_pos rfl] at h
  by_cases hs : s.size ≤ 1000000
  ·rw [if_pos hs] at h
   obtain ⟨l, hl, h⟩ := Option.bind_eq_some_iff.1 h
   obtain rfl := Option.some.inj h
   have HL := Aside0.mk hl
   have HS := Aside0.mk hs
   clear hl hs h
   go_enter Tryd.func42, Tryd.ntmps42
   go_wp2_with (first
    | (go_at_call 72; refine (ident_Name.calls _ _ _ HT.out).mono ?_; rintro e w5 ⟨rfl, ⟨nd, rfl⟩⟩)
    | (go_at_call 58; refine (ident_Write.each_calls w.heap.size s l _ ?g1 HS.out HL.out).mono ?_; (case g1 => repeat (first | (with_reducible exact ident_Write.boxed _ _ _) | (with_reducible apply ident_Write.cellN))); rintro e w6 ⟨rfl, hb6⟩; have HW6 := Aside0.mk (below_step (by repeat (first | (with_reducible exact ident_Write.belowA _ _) | (with_reducible apply ident_Write.belowN))) hb6); clear hb6))
   go_ret
   exact ⟨rfl, HW6.out⟩
  ·rw [if_neg hs] at h
   cases h

/-! ### strconv_Itoa: function 43 -/
def strconv_Itoa.f (a0 : Int) : Option (ByteArray) := if -9223372036854775808 ≤ a0 then (if a0 ≤ 9223372036854775807 then some ⟨(Lib.itoa a0).toArray⟩ else none) else none
theorem strconv_Itoa.calls (a0 : Int) (r : ByteArray) (w : World) (h : strconv_Itoa.f a0 = some r) (htab : Tbl.Tab0 w) :
  Calls Tryd.prog 43 #[.int .i64 a0] w fun e w' => e = .returned (.string r) ∧ Below w.heap.size w w' := by
 unfold strconv_Itoa.f at h
 by_cases h0 : -9223372036854775808 ≤ a0
 ·rw [if_pos h0] at h
  by_cases h1 : a0 ≤ 9223372036854775807
  ·rw [if_pos h1] at h
   refine (Tryd.strconv_Itoa a0 h0 h1 w htab).mono ?_
   rintro e w' ⟨rfl, k, os, rfl⟩
   exact ⟨by rw [Option.some.inj h], Lib.below_grow _ _ (Nat.le_refl _) k os⟩
  ·rw [if_neg h1] at h
   cases h
 ·rw [if_neg h0] at h
  cases h

end Go.Proofs.YtofdhdafabmhmaaDoor.PLa
end
section
namespace Go.Proofs.YtofdhdafabmhmaaDoor.PLa
open Go.RowKit Go.Proofs.YtofdhdafabmhmaaDoorW.PrintWords Go.Proofs.YtofdhdafabmhmaaDoorW.PrintLast Go.Proofs.YtofdhdafabmhmaaDoorW.PrintMore
attribute [local go_sem] max2_int min2_int max_two min_two max_three min_three max_four min_four
open Go.Proofs.YtofdhdafabmhmaaDoor.Opn Go.Proofs.YtofdhdafabmhmaaDoor.Giv

/-! ### line_Text: function 22 -/
mutual
def line_Text.j0 : Nat → ByteArray → Bool → Int → Int → ByteArray → Option (ByteArray)
 | 0, _, _, _, _, _ => none
 | k + 1, x3, x26, x287000, x287001, x287002 => if x26 = true then (if x3.toList = ([] : List UInt8) then ((strconv_Itoa.f x287001).bind fun t289 => (if t289.size + x3.size ≤ 9223372036854775807 then (line_Text.j1 k (t289 ++ x3) x287000 x287001 x287002) else (none))) else (if 1 + x3.size ≤ 9223372036854775807 then ((strconv_Itoa.f x287001).bind fun t290 => (if t290.size + ((⟨#[32]⟩ : ByteArray) ++ x3).size ≤ 9223372036854775807 then (line_Text.j1 k (t290 ++ ((⟨#[32]⟩ : ByteArray) ++ x3)) x287000 x287001 x287002) else (none))) else (none))) else (line_Text.j1 k x3 x287000 x287001 x287002)
def line_Text.j1 : Nat → ByteArray → Int → Int → ByteArray → Option (ByteArray)
 | 0, _, _, _, _ => none
 | k + 1, x3, x287000, x287001, x287002 => if x287000 = 1 then (some (⟨#[97, 117, 116, 111]⟩ : ByteArray)) else (if x287000 = 4 then (if 5 + x3.size ≤ 9223372036854775807 then (some ((⟨#[115, 112, 97, 110, 32]⟩ : ByteArray) ++ x3)) else (none)) else (some x3))
end
def line_Text.f (k : Nat) (a0_0 : Int) (a0_1 : Int) (a0_2 : ByteArray) : Option (ByteArray) := (line_Good.f k a0_0 a0_1 a0_2).bind fun t287 => (if t287 = true then ((ident_Write.f a0_2).bind fun t288 => (if a0_0 = 2 then (line_Text.j0 k t288 true a0_0 a0_1 a0_2) else (if a0_0 = 4 then (if a0_1 > 1 then (line_Text.j0 k t288 true a0_0 a0_1 a0_2) else (line_Text.j0 k t288 (t288.toList == ([] : List UInt8)) a0_0 a0_1 a0_2)) else (line_Text.j0 k t288 false a0_0 a0_1 a0_2)))) else (some (⟨#[]⟩ : ByteArray)))
theorem line_Text.mono_l : ∀ k, (∀ y0 y1 y2 y3 y4, LeO (line_Text.j0 k y0 y1 y2 y3 y4) (line_Text.j0 (k + 1) y0 y1 y2 y3 y4)) ∧ (∀ y0 y1 y2 y3, LeO (line_Text.j1 k y0 y1 y2 y3) (line_Text.j1 (k + 1) y0 y1 y2 y3))
 | 0 => ⟨fun _ _ _ _ _ r h => by simp [line_Text.j0] at h, fun _ _ _ _ r h => by simp [line_Text.j1] at h⟩
 | k + 1 => by
  obtain ⟨ih0, ih1⟩ := line_Text.mono_l k
  refine ⟨?_, ?_⟩
  ·intro y0 y1 y2 y3 y4
   unfold line_Text.j0
   repeat' first
   | (with_reducible exact ih0 _ _ _ _ _)
   | (with_reducible exact ih1 _ _ _ _)
   | (with_reducible exact line_Good.mono _ _ _ _)
   | (with_reducible exact LeO.refl _)
   | (with_reducible exact LeO.none _)
   | (with_reducible refine LeO.ite ?_ ?_)
   | (with_reducible refine LeO.bind ?_ (fun _ => ?_))
  ·intro y0 y1 y2 y3
   unfold line_Text.j1
   repeat' first
   | (with_reducible exact ih0 _ _ _ _ _)
   | (with_reducible exact ih1 _ _ _ _)
   | (with_reducible exact line_Good.mono _ _ _ _)
   | (with_reducible exact LeO.refl _)
   | (with_reducible exact LeO.none _)
   | (with_reducible refine LeO.ite ?_ ?_)
   | (with_reducible refine LeO.bind ?_ (fun _ => ?_))
theorem line_Text.mono : ∀ a0 a1 a2 k, LeO (line_Text.f k a0 a1 a2) (line_Text.f (k + 1) a0 a1 a2) := by
 intro a0 a1 a2 k
 obtain ⟨ih0, ih1⟩ := line_Text.mono_l k
 unfold line_Text.f
 repeat' first
   | (with_reducible exact ih0 _ _ _ _ _)
   | (with_reducible exact ih1 _ _ _ _)
   | (with_reducible exact line_Good.mono _ _ _ _)
   | (with_reducible exact LeO.refl _)
   | (with_reducible exact LeO.none _)
   | (with_reducible refine LeO.ite ?_ ?_)
   | (with_reducible refine LeO.bind ?_ (fun _ => ?_))
set_option maxHeartbeats 8000000 in
set_option maxRecDepth 100000 in
theorem line_Text.calls (k : Nat) (a0_0 : Int) (a0_1 : Int) (a0_2 : ByteArray) (r : ByteArray) (w : World) (h : line_Text.f k a0_0 a0_1 a0_2 = some r) (htab : Tbl.Tab0 w) :
  Calls Tryd.prog 22 #[.agg #[.int .i64 a0_0, .int .i64 a0_1, .string a0_2]] w fun e w' => e = .returned (.string r) ∧ Below w.heap.size w w' := by
 have HTB := Aside0.mk htab
 clear htab
 have hu41 := Tryd.underlying41
 have HB := Aside0.mk (Below.refl w.heap.size w)
 have H : ((line_Good.f k a0_0 a0_1 a0_2).bind fun t287 => (if t287 = true then ((ident_Write.f a0_2).bind fun t288 => (if a0_0 = 2 then (line_Text.j0 k t288 true a0_0 a0_1 a0_2) else (if a0_0 = 4 then (if a0_1 > 1 then (line_Text.j0 k t288 true a0_0 a0_1 a0_2) else (line_Text.j0 k t288 (t288.toList == ([] : List UInt8)) a0_0 a0_1 a0_2)) else (line_Text.j0 k t288 false a0_0 a0_1 a0_2)))) else (some (⟨#[]⟩ : ByteArray)))) = some r := h
 clear h
 replace H := Option.bind_eq_some_iff.mp H
 obtain ⟨t287, A20, H⟩ := H
 try dsimp only at H
 have A2 := Aside0.mk A20
 clear A20
 by_cases c3 : t287 = true
 ·subst c3
  rw [if_pos rfl] at H
  replace H := Option.bind_eq_some_iff.mp H
  obtain ⟨t288, A40, H⟩ := H
  try dsimp only at H
  have A4 := Aside0.mk A40
  clear A40
  have HC5 := Aside0.mk H
  clear H
  go_enter Tryd.func22, Tryd.ntmps22
  go_upto_region 4 with (first | ((with_reducible refine gate_dst (N := 1) rfl ?_); refine box_event ?hg (N := 1) ?hd (cs := #[.int .i64 a0_0, .int .i64 a0_1, .string a0_2]) (t := 41) ?hr ?_; (case hd => rfl); (case hg => rfl); (case hr => first | (go_simp; done) | (go_simp; rfl)); intro gb286 hg w6 hbox hb; have n0_ := Aside0.mk (below_step bel_ hb); have n1_ := Aside0.mk (hbox); have n2_ := Aside0.mk ((bsz_ hg : w.heap.size ≤ gb286)); have n3_ := Aside0.mk ((bsz_ hg : w.heap.size ≤ gb286)); clear HB; have HB := n0_; have BK286 := n1_; have GW286 := n2_; have GE286 := n3_; clear n0_ n1_ n2_ n3_; clear hb hbox hg; have hcz7_0 : w6.cell? ⟨gb286, 0, none⟩ = some (.int .i64 a0_0) := (blk_cell BK286.out 0).trans rfl; have hcz7_1 : w6.cell? ⟨gb286, 1, none⟩ = some (.int .i64 a0_1) := (blk_cell BK286.out 1).trans rfl; have hcz7_2 : w6.cell? ⟨gb286, 2, none⟩ = some (.string a0_2) := (blk_cell BK286.out 2).trans rfl; have hfz7_0 := blk_frozen BK286.out 0; have hfz7_1 := blk_frozen BK286.out 1; have hfz7_2 := blk_frozen BK286.out 2) | ((with_reducible refine gate_callee (f := 19) rfl ?_); refine goesL_ (some 5) rfl rfl Tryd.func19 (by kernel_rfl) rfl #[.agg #[.int .i64 a0_0, .int .i64 a0_1, .string a0_2]] rfl goa_ ?_; (with_reducible refine (line_Good.calls k a0_0 a0_1 a0_2 true _ A2.out).mono ?_); rintro e w8 ⟨rfl, hb⟩; refine ⟨_, rfl, ?_⟩; have n0_ := blb_ BK286 hb; have n1_ := Aside0.mk (below_step bel_ hb); clear BK286; clear HB; have BK286 := n0_; have HB := n1_; clear n0_ n1_; clear hb; have hcz9_0 : w8.cell? ⟨gb286, 0, none⟩ = some (.int .i64 a0_0) := (blk_cell BK286.out 0).trans rfl; have hcz9_1 : w8.cell? ⟨gb286, 1, none⟩ = some (.int .i64 a0_1) := (blk_cell BK286.out 1).trans rfl; have hcz9_2 : w8.cell? ⟨gb286, 2, none⟩ = some (.string a0_2) := (blk_cell BK286.out 2).trans rfl; have hfz9_0 := blk_frozen BK286.out 0; have hfz9_1 := blk_frozen BK286.out 1; have hfz9_2 := blk_frozen BK286.out 2) | ((with_reducible refine gate_callee (f := 42) rfl ?_); refine goesL_ (some 9) rfl rfl Tryd.func42 (by kernel_rfl) rfl #[.string a0_2] rfl goa_ ?_; (with_reducible refine (ident_Write.calls a0_2 t288 _ A4.out).mono ?_); rintro e w10 ⟨rfl, hb⟩; refine ⟨_, rfl, ?_⟩; have n0_ := blb_ BK286 hb; have n1_ := Aside0.mk (below_step bel_ hb); clear BK286; clear HB; have BK286 := n0_; have HB := n1_; clear n0_ n1_; clear hb))
  (try simp only [Act.put, List.setIfInBounds_toArray, List.set_cons_zero, List.set_cons_succ])
  go_cut [26] (fun v26 wc => ∃ (kq : Nat) (x26_4 : Bool), v26 = .bool x26_4 ∧ Aside0 (line_Text.j0 kq t288 x26_4 a0_0 a0_1 a0_2 = some r) ∧ Aside0 (kq ≤ k) ∧ Aside0 (wc.heap[gb286]? = some (.cells #[.int .i64 a0_0, .int .i64 a0_1, .string a0_2] 41 (0, 0))) ∧ Aside0 (Below w.heap.size w wc))
  case first =>
   have H := HC5.out
   clear HC5
   by_cases c11 : a0_0 = 2
   ·rw [if_pos c11] at H
    have c11b0 : (a0_0 == 2) = true := beq_iff_eq.mpr c11
    have c11b1 : (a0_0 != 2) = false := bne_eq_false_iff_eq.mpr c11
    clear c11
    (first | rw [c11b0] | (simp only [i64_w, i32_w]; rw [c11b0]) | skip)
    have H' := Aside0.mk H
    clear H
    have hcz12_0 : w10.cell? ⟨gb286, 0, none⟩ = some (.int .i64 a0_0) := (blk_cell BK286.out 0).trans rfl
    have hcz12_1 : w10.cell? ⟨gb286, 1, none⟩ = some (.int .i64 a0_1) := (blk_cell BK286.out 1).trans rfl
    have hcz12_2 : w10.cell? ⟨gb286, 2, none⟩ = some (.string a0_2) := (blk_cell BK286.out 2).trans rfl
    have hfz12_0 := blk_frozen BK286.out 0
    have hfz12_1 := blk_frozen BK286.out 1
    have hfz12_2 := blk_frozen BK286.out 2
    go_wp2
    go_meet
    case rel => exact ⟨_, (true), rfs_, (by first | exact H' | (subst_vars; exact H')), ⟨ole_⟩, ⟨blk_⟩, ⟨bel_⟩⟩
   ·rw [if_neg c11] at H
    have c11b0 : (a0_0 == 2) = false := beq_eq_false_iff_ne.mpr c11
    have c11b1 : (a0_0 != 2) = true := bne_iff_ne.mpr c11
    (first | rw [c11b0] | (simp only [i64_w, i32_w]; rw [c11b0]) | skip)
    by_cases c13 : a0_0 = 4
    ·rw [if_pos c13] at H
     have c13b0 : (a0_0 == 4) = true := beq_iff_eq.mpr c13
     have c13b1 : (a0_0 != 4) = false := bne_eq_false_iff_eq.mpr c13
     clear c13
     by_cases c14 : a0_1 > 1
     ·rw [if_pos c14] at H
      have c14b0 : decide (1 < a0_1) = true := decide_eq_true c14
      clear c14
      have H' := Aside0.mk H
      clear H
      have hcz15_0 : w10.cell? ⟨gb286, 0, none⟩ = some (.int .i64 a0_0) := (blk_cell BK286.out 0).trans rfl
      have hcz15_1 : w10.cell? ⟨gb286, 1, none⟩ = some (.int .i64 a0_1) := (blk_cell BK286.out 1).trans rfl
      have hcz15_2 : w10.cell? ⟨gb286, 2, none⟩ = some (.string a0_2) := (blk_cell BK286.out 2).trans rfl
      have hfz15_0 := blk_frozen BK286.out 0
      have hfz15_1 := blk_frozen BK286.out 1
      have hfz15_2 := blk_frozen BK286.out 2
      go_wp2
      go_meet
      case rel => exact ⟨_, (true), rfs_, (by first | exact H' | (subst_vars; exact H')), ⟨ole_⟩, ⟨blk_⟩, ⟨bel_⟩⟩
     ·rw [if_neg c14] at H
      have c14b0 : decide (1 < a0_1) = false := decide_eq_false c14
      clear c14
      have H' := Aside0.mk H
      clear H
      have hcz16_0 : w10.cell? ⟨gb286, 0, none⟩ = some (.int .i64 a0_0) := (blk_cell BK286.out 0).trans rfl
      have hcz16_1 : w10.cell? ⟨gb286, 1, none⟩ = some (.int .i64 a0_1) := (blk_cell BK286.out 1).trans rfl
      have hcz16_2 : w10.cell? ⟨gb286, 2, none⟩ = some (.string a0_2) := (blk_cell BK286.out 2).trans rfl
      have hfz16_0 := blk_frozen BK286.out 0
      have hfz16_1 := blk_frozen BK286.out 1
      have hfz16_2 := blk_frozen BK286.out 2
      go_wp2
      go_meet
      case rel => exact ⟨_, ((t288.toList == ([] : List UInt8))), rfs_, (by first | exact H' | (subst_vars; exact H')), ⟨ole_⟩, ⟨blk_⟩, ⟨bel_⟩⟩
    ·rw [if_neg c13] at H
     have c13b0 : (a0_0 == 4) = false := beq_eq_false_iff_ne.mpr c13
     have c13b1 : (a0_0 != 4) = true := bne_iff_ne.mpr c13
     have H' := Aside0.mk H
     clear H
     have hcz17_0 : w10.cell? ⟨gb286, 0, none⟩ = some (.int .i64 a0_0) := (blk_cell BK286.out 0).trans rfl
     have hcz17_1 : w10.cell? ⟨gb286, 1, none⟩ = some (.int .i64 a0_1) := (blk_cell BK286.out 1).trans rfl
     have hcz17_2 : w10.cell? ⟨gb286, 2, none⟩ = some (.string a0_2) := (blk_cell BK286.out 2).trans rfl
     have hfz17_0 := blk_frozen BK286.out 0
     have hfz17_1 := blk_frozen BK286.out 1
     have hfz17_2 := blk_frozen BK286.out 2
     go_wp2
     go_meet
     case rel => exact ⟨_, (false), rfs_, (by first | exact H' | (subst_vars; exact H')), ⟨ole_⟩, ⟨blk_⟩, ⟨bel_⟩⟩
  case rest =>
   clear HC5
   try clear c1
   try clear c2
   try clear p2
   try clear c3
   try clear c4
   try clear c11
   try clear c11b0
   try clear c11b1
   try clear c13
   try clear c13b0
   try clear c13b1
   try clear c14
   try clear c14b0
   try clear hcz12_0
   try clear hcz12_1
   try clear hcz12_2
   try clear hcz15_0
   try clear hcz15_1
   try clear hcz15_2
   try clear hcz16_0
   try clear hcz16_1
   try clear hcz16_2
   try clear hcz17_0
   try clear hcz17_1
   try clear hcz17_2
   try clear hcz7_0
   try clear hcz7_1
   try clear hcz7_2
   try clear hcz9_0
   try clear hcz9_1
   try clear hcz9_2
   try clear hfz12_0
   try clear hfz12_1
   try clear hfz12_2
   try clear hfz15_0
   try clear hfz15_1
   try clear hfz15_2
   try clear hfz16_0
   try clear hfz16_1
   try clear hfz16_2
   try clear hfz17_0
   try clear hfz17_1
   try clear hfz17_2
   try clear hfz7_0
   try clear hfz7_1
   try clear hfz7_2
   try clear hfz9_0
   try clear hfz9_1
   try clear hfz9_2
   obtain ⟨kq, x26_4, rfl, HA, HJ4, BK286, HB⟩ := hcut
   cases kq with
   | zero => exact absurd HA.out (by simp [line_Text.j0])
   | succ kj4 =>
    have H := HA.out
    clear HA
    simp only [line_Text.j0] at H
    have HC18 := Aside0.mk H
    clear H
    go_upto_if 26 with (fail)
    go_cut [3] (fun v3 wc => ∃ (kq : Nat) (x3_17 : ByteArray), v3 = .string x3_17 ∧ Aside0 (line_Text.j1 kq x3_17 a0_0 a0_1 a0_2 = some r) ∧ Aside0 (kq ≤ kj4) ∧ Aside0 (wc.heap[gb286]? = some (.cells #[.int .i64 a0_0, .int .i64 a0_1, .string a0_2] 41 (0, 0))) ∧ Aside0 (Below w.heap.size w wc))
    case first =>
     have H := HC18.out
     clear HC18
     by_cases c19 : x26_4 = true
     ·subst c19
      rw [if_pos rfl] at H
      by_cases c20 : t288.toList = ([] : List UInt8)
      ·rw [if_pos c20] at H
       have c20b0 : (t288.toList == ([] : List UInt8)) = true := beq_iff_eq.mpr c20
       have c20b1 : (t288.toList != ([] : List UInt8)) = false := bne_eq_false_iff_eq.mpr c20
       clear c20
       (first | rw [c20b0] | (simp only [i64_w, i32_w]; rw [c20b0]) | skip)
       replace H := Option.bind_eq_some_iff.mp H
       obtain ⟨t289, A210, H⟩ := H
       try dsimp only at H
       have A21 := Aside0.mk A210
       clear A210
       by_cases c22 : t289.size + t288.size ≤ 9223372036854775807
       ·rw [if_pos c22] at H
        have c22b0 := eq_true c22
        have c22b1 : decide (t289.size + t288.size ≤ 9223372036854775807) = true := decide_eq_true c22
        try have c22b2 : (9223372036854775807 < t289.size + t288.size) = False := eq_false (Nat.not_lt.2 c22)
        have H' := Aside0.mk H
        clear H
        have hcz23_0 : wc.cell? ⟨gb286, 0, none⟩ = some (.int .i64 a0_0) := (blk_cell BK286.out 0).trans rfl
        have hcz23_1 : wc.cell? ⟨gb286, 1, none⟩ = some (.int .i64 a0_1) := (blk_cell BK286.out 1).trans rfl
        have hcz23_2 : wc.cell? ⟨gb286, 2, none⟩ = some (.string a0_2) := (blk_cell BK286.out 2).trans rfl
        have hfz23_0 := blk_frozen BK286.out 0
        have hfz23_1 := blk_frozen BK286.out 1
        have hfz23_2 := blk_frozen BK286.out 2
        go_wp2_with (first | ((with_reducible refine gate_callee (f := 43) rfl ?_); refine goesL_ (some 33) rfl rfl Tryd.func43 (by kernel_rfl) rfl #[.int .i64 a0_1] rfl goa_ ?_; (with_reducible refine (strconv_Itoa.calls a0_1 t289 _ A21.out (Tbl.tab0_stays HTB.out bel_)).mono ?_); rintro e w24 ⟨rfl, hb⟩; refine ⟨_, rfl, ?_⟩; have n0_ := blb_ BK286 hb; have n1_ := Aside0.mk (below_step bel_ hb); clear BK286; clear HB; have BK286 := n0_; have HB := n1_; clear n0_ n1_; clear hb))
        go_meet
        case rel => exact ⟨_, (t289 ++ t288), rfs_, H', ⟨by have := HJ4.out; first | omega | exact Nat.le_refl _⟩, ⟨blk_⟩, ⟨bel_⟩⟩
       ·rw [if_neg c22] at H
        exact absurd H (by simp)
      ·rw [if_neg c20] at H
       have c20b0 : (t288.toList == ([] : List UInt8)) = false := beq_eq_false_iff_ne.mpr c20
       have c20b1 : (t288.toList != ([] : List UInt8)) = true := bne_iff_ne.mpr c20
       (first | rw [c20b0] | (simp only [i64_w, i32_w]; rw [c20b0]) | skip)
       by_cases c25 : 1 + t288.size ≤ 9223372036854775807
       ·rw [if_pos c25] at H
        have c25b0 := eq_true c25
        have c25b1 : decide (1 + t288.size ≤ 9223372036854775807) = true := decide_eq_true c25
        try have c25b2 : (9223372036854775807 < 1 + t288.size) = False := eq_false (Nat.not_lt.2 c25)
        replace H := Option.bind_eq_some_iff.mp H
        obtain ⟨t290, A260, H⟩ := H
        try dsimp only at H
        have A26 := Aside0.mk A260
        clear A260
        by_cases c27 : t290.size + ((⟨#[32]⟩ : ByteArray) ++ t288).size ≤ 9223372036854775807
        ·rw [if_pos c27] at H
         have c27b0 := eq_true c27
         have c27b1 : decide (t290.size + ((⟨#[32]⟩ : ByteArray) ++ t288).size ≤ 9223372036854775807) = true := decide_eq_true c27
         try have c27b2 : (9223372036854775807 < t290.size + ((⟨#[32]⟩ : ByteArray) ++ t288).size) = False := eq_false (Nat.not_lt.2 c27)
         try have c27b3 : (9223372036854775807 < t290.size + (1 + t288.size)) = False := eq_false (Nat.not_lt.2 (by have h_ := c27; simp only [ByteArray.size_append] at h_; exact h_))
         have H' := Aside0.mk H
         clear H
         have hcz28_0 : wc.cell? ⟨gb286, 0, none⟩ = some (.int .i64 a0_0) := (blk_cell BK286.out 0).trans rfl
         have hcz28_1 : wc.cell? ⟨gb286, 1, none⟩ = some (.int .i64 a0_1) := (blk_cell BK286.out 1).trans rfl
         have hcz28_2 : wc.cell? ⟨gb286, 2, none⟩ = some (.string a0_2) := (blk_cell BK286.out 2).trans rfl
         have hfz28_0 := blk_frozen BK286.out 0
         have hfz28_1 := blk_frozen BK286.out 1
         have hfz28_2 := blk_frozen BK286.out 2
         go_wp2_with (first | ((with_reducible refine gate_callee (f := 43) rfl ?_); refine goesL_ (some 33) rfl rfl Tryd.func43 (by kernel_rfl) rfl #[.int .i64 a0_1] rfl goa_ ?_; (with_reducible refine (strconv_Itoa.calls a0_1 t290 _ A26.out (Tbl.tab0_stays HTB.out bel_)).mono ?_); rintro e w29 ⟨rfl, hb⟩; refine ⟨_, rfl, ?_⟩; have n0_ := blb_ BK286 hb; have n1_ := Aside0.mk (below_step bel_ hb); clear BK286; clear HB; have BK286 := n0_; have HB := n1_; clear n0_ n1_; clear hb))
         go_meet
         case rel => exact ⟨_, (t290 ++ ((⟨#[32]⟩ : ByteArray) ++ t288)), rfs_, H', ⟨by have := HJ4.out; first | omega | exact Nat.le_refl _⟩, ⟨blk_⟩, ⟨bel_⟩⟩
        ·rw [if_neg c27] at H
         exact absurd H (by simp)
       ·rw [if_neg c25] at H
        exact absurd H (by simp)
     ·replace c19 := Bool.eq_false_iff.mpr c19
      subst c19
      rw [if_neg (show ¬ (false = true) by decide)] at H
      have H' := Aside0.mk H
      clear H
      go_wp2
      go_meet
      case rel => exact ⟨_, (t288), rfs_, H', ⟨by have := HJ4.out; first | omega | exact Nat.le_refl _⟩, ⟨blk_⟩, ⟨bel_⟩⟩
    case rest =>
     clear HC18
     try clear c1
     try clear c2
     try clear p2
     try clear c3
     try clear c4
     try clear c11
     try clear c11b0
     try clear c11b1
     try clear c13
     try clear c13b0
     try clear c13b1
     try clear c14
     try clear c14b0
     try clear c19
     try clear c20
     try clear c20b0
     try clear c20b1
     try clear c22
     try clear c22b0
     try clear c22b1
     try clear c22b2
     try clear c25
     try clear c25b0
     try clear c25b1
     try clear c25b2
     try clear c27
     try clear c27b0
     try clear c27b1
     try clear c27b2
     try clear hcz12_0
     try clear hcz12_1
     try clear hcz12_2
     try clear hcz15_0
     try clear hcz15_1
     try clear hcz15_2
     try clear hcz16_0
     try clear hcz16_1
     try clear hcz16_2
     try clear hcz17_0
     try clear hcz17_1
     try clear hcz17_2
     try clear hcz23_0
     try clear hcz23_1
     try clear hcz23_2
     try clear hcz28_0
     try clear hcz28_1
     try clear hcz28_2
     try clear hcz7_0
     try clear hcz7_1
     try clear hcz7_2
     try clear hcz9_0
     try clear hcz9_1
     try clear hcz9_2
     try clear hfz12_0
     try clear hfz12_1
     try clear hfz12_2
     try clear hfz15_0
     try clear hfz15_1
     try clear hfz15_2
     try clear hfz16_0
     try clear hfz16_1
     try clear hfz16_2
     try clear hfz17_0
     try clear hfz17_1
     try clear hfz17_2
     try clear hfz23_0
     try clear hfz23_1
     try clear hfz23_2
     try clear hfz28_0
     try clear hfz28_1
     try clear hfz28_2
     try clear hfz7_0
     try clear hfz7_1
     try clear hfz7_2
     try clear hfz9_0
     try clear hfz9_1
     try clear hfz9_2
     try clear p2
     obtain ⟨kq, x3_17, rfl, HA, HJ17, BK286, HB⟩ := hcut
     cases kq with
     | zero => exact absurd HA.out (by simp [line_Text.j1])
     | succ kj17 =>
      have H := HA.out
      clear HA
      simp only [line_Text.j1] at H
      by_cases c30 : a0_0 = 1
      ·rw [if_pos c30] at H
       have c30b0 : (a0_0 == 1) = true := beq_iff_eq.mpr c30
       have c30b1 : (a0_0 != 1) = false := bne_eq_false_iff_eq.mpr c30
       clear c30
       obtain rfl := Option.some.inj H
       have hcz31_0 : wc.cell? ⟨gb286, 0, none⟩ = some (.int .i64 a0_0) := (blk_cell BK286.out 0).trans rfl
       have hcz31_1 : wc.cell? ⟨gb286, 1, none⟩ = some (.int .i64 a0_1) := (blk_cell BK286.out 1).trans rfl
       have hcz31_2 : wc.cell? ⟨gb286, 2, none⟩ = some (.string a0_2) := (blk_cell BK286.out 2).trans rfl
       have hfz31_0 := blk_frozen BK286.out 0
       have hfz31_1 := blk_frozen BK286.out 1
       have hfz31_2 := blk_frozen BK286.out 2
       go_wp2
       go_ret
       exact ⟨rsl_, bel_⟩
      ·rw [if_neg c30] at H
       have c30b0 : (a0_0 == 1) = false := beq_eq_false_iff_ne.mpr c30
       have c30b1 : (a0_0 != 1) = true := bne_iff_ne.mpr c30
       by_cases c32 : a0_0 = 4
       ·rw [if_pos c32] at H
        have c32b0 : (a0_0 == 4) = true := beq_iff_eq.mpr c32
        have c32b1 : (a0_0 != 4) = false := bne_eq_false_iff_eq.mpr c32
        clear c32
        by_cases c33 : 5 + x3_17.size ≤ 9223372036854775807
        ·rw [if_pos c33] at H
         have c33b0 := eq_true c33
         have c33b1 : decide (5 + x3_17.size ≤ 9223372036854775807) = true := decide_eq_true c33
         try have c33b2 : (9223372036854775807 < 5 + x3_17.size) = False := eq_false (Nat.not_lt.2 c33)
         obtain rfl := Option.some.inj H
         have hcz34_0 : wc.cell? ⟨gb286, 0, none⟩ = some (.int .i64 a0_0) := (blk_cell BK286.out 0).trans rfl
         have hcz34_1 : wc.cell? ⟨gb286, 1, none⟩ = some (.int .i64 a0_1) := (blk_cell BK286.out 1).trans rfl
         have hcz34_2 : wc.cell? ⟨gb286, 2, none⟩ = some (.string a0_2) := (blk_cell BK286.out 2).trans rfl
         have hfz34_0 := blk_frozen BK286.out 0
         have hfz34_1 := blk_frozen BK286.out 1
         have hfz34_2 := blk_frozen BK286.out 2
         go_wp2
         go_ret
         exact ⟨rsl_, bel_⟩
        ·rw [if_neg c33] at H
         exact absurd H (by simp)
       ·rw [if_neg c32] at H
        have c32b0 : (a0_0 == 4) = false := beq_eq_false_iff_ne.mpr c32
        have c32b1 : (a0_0 != 4) = true := bne_iff_ne.mpr c32
        obtain rfl := Option.some.inj H
        have hcz35_0 : wc.cell? ⟨gb286, 0, none⟩ = some (.int .i64 a0_0) := (blk_cell BK286.out 0).trans rfl
        have hcz35_1 : wc.cell? ⟨gb286, 1, none⟩ = some (.int .i64 a0_1) := (blk_cell BK286.out 1).trans rfl
        have hcz35_2 : wc.cell? ⟨gb286, 2, none⟩ = some (.string a0_2) := (blk_cell BK286.out 2).trans rfl
        have hfz35_0 := blk_frozen BK286.out 0
        have hfz35_1 := blk_frozen BK286.out 1
        have hfz35_2 := blk_frozen BK286.out 2
        go_wp2
        go_ret
        exact ⟨rsl_, bel_⟩
 ·replace c3 := Bool.eq_false_iff.mpr c3
  subst c3
  rw [if_neg (show ¬ (false = true) by decide)] at H
  obtain rfl := Option.some.inj H
  go_enter Tryd.func22, Tryd.ntmps22
  go_wp2_with (first | ((with_reducible refine gate_dst (N := 1) rfl ?_); refine box_event ?hg (N := 1) ?hd (cs := #[.int .i64 a0_0, .int .i64 a0_1, .string a0_2]) (t := 41) ?hr ?_; (case hd => rfl); (case hg => rfl); (case hr => first | (go_simp; done) | (go_simp; rfl)); intro gb286 hg w36 hbox hb; have n0_ := Aside0.mk (below_step bel_ hb); have n1_ := Aside0.mk (hbox); have n2_ := Aside0.mk ((bsz_ hg : w.heap.size ≤ gb286)); have n3_ := Aside0.mk ((bsz_ hg : w.heap.size ≤ gb286)); clear HB; have HB := n0_; have BK286 := n1_; have GW286 := n2_; have GE286 := n3_; clear n0_ n1_ n2_ n3_; clear hb hbox hg; have hcz37_0 : w36.cell? ⟨gb286, 0, none⟩ = some (.int .i64 a0_0) := (blk_cell BK286.out 0).trans rfl; have hcz37_1 : w36.cell? ⟨gb286, 1, none⟩ = some (.int .i64 a0_1) := (blk_cell BK286.out 1).trans rfl; have hcz37_2 : w36.cell? ⟨gb286, 2, none⟩ = some (.string a0_2) := (blk_cell BK286.out 2).trans rfl; have hfz37_0 := blk_frozen BK286.out 0; have hfz37_1 := blk_frozen BK286.out 1; have hfz37_2 := blk_frozen BK286.out 2) | ((with_reducible refine gate_callee (f := 19) rfl ?_); refine goesL_ (some 5) rfl rfl Tryd.func19 (by kernel_rfl) rfl #[.agg #[.int .i64 a0_0, .int .i64 a0_1, .string a0_2]] rfl goa_ ?_; (with_reducible refine (line_Good.calls k a0_0 a0_1 a0_2 false _ A2.out).mono ?_); rintro e w38 ⟨rfl, hb⟩; refine ⟨_, rfl, ?_⟩; have n0_ := blb_ BK286 hb; have n1_ := Aside0.mk (below_step bel_ hb); clear BK286; clear HB; have BK286 := n0_; have HB := n1_; clear n0_ n1_; clear hb))
  go_ret
  exact ⟨rsl_, bel_⟩

end Go.Proofs.YtofdhdafabmhmaaDoor.PLa
end
