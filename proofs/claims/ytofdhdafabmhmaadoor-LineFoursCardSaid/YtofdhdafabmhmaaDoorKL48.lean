/- LineFoursCardSaid, part 9 of 13: contracts of the program's functions, the words that they use, and the plain laws on what they compute. Conditions: none beyond what the statements say. -/
import Derived.Test.YtofdhdafabmhmaaDoorKL40
import Derived.Test.YtofdhdafabmhmaaDoorKL41
import Derived.Test.YtofdhdafabmhmaaDoorKL43
import Derived.Test.YtofdhdafabmhmaaDoorKL46
import Derived.Test.YtofdhdafabmhmaaDoorKL47
import Derived.BigRegion
import Derived.BigQuiet
import Derived.Deep.QuietTactic
import Derived.Deep.LoopGhost
import Derived.Deep.DeepCutAuto
import Derived.Tactics
import Derived.Tactics2
set_option linter.unusedVariables false
set_option linter.unusedSimpArgs false
section
namespace Go.Proofs.YtofdhdafabmhmaaDoor.Giv
open Go.RowKit Go.Proofs.YtofdhdafabmhmaaDoorW.PrintWords Go.Proofs.YtofdhdafabmhmaaDoorW.PrintLast Go.Proofs.YtofdhdafabmhmaaDoorW.PrintMore Go.Proofs.YtofdhdafabmhmaaDoor.PLf4
open Go.Proofs.YtofdhdafabmhmaaDoor.Opn Go.BigFrame
def line_Read.text (l : List S67) (k : Int) : ByteArray := if 0 ≤ k ∧ k < (l.length : Int) then (if (rd_T67 l k).f0 = 1 then (rd_T67 l k).f2 else ⟨#[]⟩) else ⟨#[]⟩
def line_Read.num (n : Nat) (l : List S67) (k : Int) : Option Bool := (value_Integer.f n l k).bind fun r => some (decide (r.2.2 = 0) || decide (r.2.2 = 10))
def line_Read.isNum (n : Nat) (l : List S67) (nu k : Int) : Option Bool := if nu < 0 then line_Read.num n l k else some false
def line_Read.isName (nm t : ByteArray) : Option Bool := if nm.toList = [] then ident_Custom.f t else some false
/-- The words of a line: where its number and its span stand, where it ends, its name. -/
def line_Read.l0 : Nat → List S67 → Int → Int → Int → Int → ByteArray → Option (Int × Int × Int × ByteArray)
  | 0, _, _, _, _, _, _ => none
  | n + 1, l, at_, nu, sp, k, nm => (line_Read.isNum n l nu k).bind fun b => if b = true then line_Read.l0 n l at_ k sp (wrap64 (k + 1)) nm else
      (ident_Is.f (line_Read.text l k) ⟨#[115, 112, 97, 110]⟩).bind fun s => if s = true then (if sp < 0 then (if k > at_ then some (nu, k, wrap64 (k + 1), nm) else line_Read.l0 n l at_ nu k (wrap64 (k + 1)) nm) else
        ((line_Read.isName nm (line_Read.text l k)).bind fun c => if c = true then line_Read.l0 n l at_ nu sp (wrap64 (k + 1)) (line_Read.text l k) else some (nu, sp, k, nm)))
      else ((line_Read.isName nm (line_Read.text l k)).bind fun c => if c = true then line_Read.l0 n l at_ nu sp (wrap64 (k + 1)) (line_Read.text l k) else some (nu, sp, k, nm))
def line_Read.fin (n : Nat) (l : List S67) (at_ nu sp k : Int) (nm : ByteArray) : Option (Int × Int × ByteArray × Int × Int) :=
  if k = at_ then some (0, 0, nm, at_, 50) else if sp ≥ 0 ∧ nu < 0 ∧ nm.toList = [] then some (0, 0, nm, k, 50) else
  if nu < 0 then some (if sp ≥ 0 then 4 else 3, if sp ≥ 0 then 1 else 0, nm, k, 0) else
  (value_Integer.f n l nu).bind fun r => if r.2.2 ≠ 0 ∨ r.1 > 10000 ∨ r.1 < -10000 then some (0, 0, ⟨#[]⟩, nu, 52) else
    if r.1 = 0 ∨ (r.1 < 0 ∧ sp ≥ 0) then some (0, 0, ⟨#[]⟩, nu, 50) else some (if sp < 0 then 2 else 4, r.1, nm, k, 0)
def line_Read.keys : List ByteArray := [⟨#[97, 117, 116, 111]⟩, ⟨#[105, 110, 104, 101, 114, 105, 116]⟩, ⟨#[105, 110, 105, 116, 105, 97, 108]⟩, ⟨#[117, 110, 115, 101, 116]⟩, ⟨#[114, 101, 118, 101, 114, 116]⟩]
def line_Read.f (k : Nat) (l0 : List S67) (a1 : Int) : Option (Int × Int × ByteArray × Int × Int) :=
  (value_Keyword.f k l0 a1 line_Read.keys).bind fun r => if r.1 = 0 then (line_auto.f).bind fun t => some (t.1, t.2.1, t.2.2, r.2, 0) else if r.1 > 0 then some (0, 0, ⟨#[]⟩, a1, 51) else
    (line_Read.l0 k l0 a1 (-1) (-1) a1 ⟨#[]⟩).bind fun s => line_Read.fin k l0 a1 s.1 s.2.1 s.2.2.1 s.2.2.2
theorem line_Read.num_mono (l : List S67) (i : Int) (n : Nat) : LeO (line_Read.num n l i) (line_Read.num (n + 1) l i) := LeO.bind (value_Integer.mono _ _ _) (fun _ => LeO.refl _)
theorem line_Read.isNum_mono (l : List S67) (nu i : Int) (n : Nat) : LeO (line_Read.isNum n l nu i) (line_Read.isNum (n + 1) l nu i) := LeO.ite (line_Read.num_mono _ _ _) (LeO.refl _)
theorem line_Read.mono_l : ∀ k, (∀ l a nu sp i nm, LeO (line_Read.l0 k l a nu sp i nm) (line_Read.l0 (k + 1) l a nu sp i nm))
  | 0 => fun _ _ _ _ _ _ r h => by simp [line_Read.l0] at h
  | k + 1 => by
    have ih0 := line_Read.mono_l k; intro l a nu sp i nm; unfold line_Read.l0; refine LeO.bind (line_Read.isNum_mono _ _ _ _) (fun b => LeO.ite (ih0 _ _ _ _ _ _) (LeO.bind (LeO.refl _) (fun s => LeO.ite (LeO.ite (LeO.ite (LeO.refl _) (ih0 _ _ _ _ _ _)) (LeO.bind (LeO.refl _) (fun c => LeO.ite (ih0 _ _ _ _ _ _) (LeO.refl _)))) (LeO.bind (LeO.refl _) (fun c => LeO.ite (ih0 _ _ _ _ _ _) (LeO.refl _))))))
theorem line_Read.mono : ∀ l0 a1 k, LeO (line_Read.f k l0 a1) (line_Read.f (k + 1) l0 a1) := by
  intro l0 a1 k; unfold line_Read.f line_Read.fin; refine LeO.bind (value_Keyword.mono _ _ _ _) (fun r => LeO.ite (LeO.refl _) (LeO.ite (LeO.refl _) (LeO.bind (line_Read.mono_l _ _ _ _ _ _ _) (fun s => LeO.ite (LeO.refl _) (LeO.ite (LeO.refl _) (LeO.ite (LeO.refl _) (LeO.bind (value_Integer.mono _ _ _) (fun _ => LeO.refl _))))))))
theorem line_Read.l0_step {n : Nat} {l : List S67} {a nu sp k : Int} {nm : ByteArray} {R : Int × Int × Int × ByteArray} (hf : line_Read.l0 (n + 1) l a nu sp k nm = some R) :
    (decide (nu < 0) = true ∧ Aside0 (line_Read.num n l k = some true) ∧ Aside0 (line_Read.l0 n l a k sp (wrap64 (k + 1)) nm = some R)) ∨
    (((decide (nu < 0) = true ∧ Aside0 (line_Read.num n l k = some false)) ∨ decide (nu < 0) = false) ∧
      ((Aside0 (ident_Is.f (line_Read.text l k) ⟨#[115, 112, 97, 110]⟩ = some true) ∧ decide (sp < 0) = true ∧ decide (a < k) = true ∧ (nu, k, wrap64 (k + 1), nm) = R) ∨
       (Aside0 (ident_Is.f (line_Read.text l k) ⟨#[115, 112, 97, 110]⟩ = some true) ∧ decide (sp < 0) = true ∧ decide (a < k) = false ∧ Aside0 (line_Read.l0 n l a nu k (wrap64 (k + 1)) nm = some R)) ∨
       (((Aside0 (ident_Is.f (line_Read.text l k) ⟨#[115, 112, 97, 110]⟩ = some true) ∧ decide (sp < 0) = false) ∨ Aside0 (ident_Is.f (line_Read.text l k) ⟨#[115, 112, 97, 110]⟩ = some false)) ∧
        (((nm.toList == ([] : List UInt8)) = true ∧ Aside0 (ident_Custom.f (line_Read.text l k) = some true) ∧ Aside0 (line_Read.l0 n l a nu sp (wrap64 (k + 1)) (line_Read.text l k) = some R)) ∨
         ((nm.toList == ([] : List UInt8)) = true ∧ Aside0 (ident_Custom.f (line_Read.text l k) = some false) ∧ (nu, sp, k, nm) = R) ∨
         ((nm.toList == ([] : List UInt8)) = false ∧ (nu, sp, k, nm) = R))))) := by
  rw [line_Read.l0] at hf; obtain ⟨b, hb, hf⟩ := Option.bind_eq_some_iff.1 hf; have P : (b = true ∧ decide (nu < 0) = true ∧ Aside0 (line_Read.num n l k = some true)) ∨ (b = false ∧ ((decide (nu < 0) = true ∧ Aside0 (line_Read.num n l k = some false)) ∨ decide (nu < 0) = false)) := by
    unfold line_Read.isNum at hb; by_cases h : nu < 0
    · rw [if_pos h] at hb
      cases b
      · exact Or.inr ⟨rfl, Or.inl ⟨dt_ h, ⟨hb⟩⟩⟩
      exact Or.inl ⟨rfl, dt_ h, ⟨hb⟩⟩
    rw [if_neg h] at hb; exact Or.inr ⟨(si_ hb).symm, Or.inr (df_ h)⟩
  rcases P with ⟨rfl, P1, P2⟩ | ⟨rfl, P⟩
  · rw [if_pos rfl] at hf
    exact Or.inl ⟨P1, P2, ⟨hf⟩⟩
  rw [if_neg (by decide)] at hf; refine Or.inr ⟨P, ?_⟩
  obtain ⟨s, hs, hf⟩ := Option.bind_eq_some_iff.1 hf; have N : ∀ {q : Prop}, ((line_Read.isName nm (line_Read.text l k)).bind fun c => if c = true then line_Read.l0 n l a nu sp (wrap64 (k + 1)) (line_Read.text l k) else some (nu, sp, k, nm)) = some R →
      (((nm.toList == ([] : List UInt8)) = true ∧ Aside0 (ident_Custom.f (line_Read.text l k) = some true) ∧ Aside0 (line_Read.l0 n l a nu sp (wrap64 (k + 1)) (line_Read.text l k) = some R)) ∨
       ((nm.toList == ([] : List UInt8)) = true ∧ Aside0 (ident_Custom.f (line_Read.text l k) = some false) ∧ (nu, sp, k, nm) = R) ∨ ((nm.toList == ([] : List UInt8)) = false ∧ (nu, sp, k, nm) = R)) := fun {_} h => by
    obtain ⟨c, hc, h⟩ := Option.bind_eq_some_iff.1 h; unfold line_Read.isName at hc; by_cases e : nm.toList = []
    · rw [if_pos e] at hc
      cases c
      · exact Or.inr (Or.inl ⟨beq_iff_eq.mpr e, ⟨hc⟩, si_ h⟩)
      exact Or.inl ⟨beq_iff_eq.mpr e, ⟨hc⟩, ⟨h⟩⟩
    rw [if_neg e] at hc; rw [← si_ hc] at h; exact Or.inr (Or.inr ⟨beq_eq_false_iff_ne.mpr e, si_ h⟩)
  cases s
  · exact Or.inr (Or.inr ⟨Or.inr ⟨hs⟩, N (q := True) hf⟩)
  rw [if_pos rfl] at hf; by_cases h : sp < 0
  · rw [if_pos h] at hf
    by_cases h2 : k > a
    · rw [if_pos h2] at hf
      exact Or.inl ⟨⟨hs⟩, dt_ h, dt_ h2, si_ hf⟩
    rw [if_neg h2] at hf; exact Or.inr (Or.inl ⟨⟨hs⟩, dt_ h, df_ h2, ⟨hf⟩⟩)
  rw [if_neg h] at hf; exact Or.inr (Or.inr ⟨Or.inl ⟨⟨hs⟩, df_ h⟩, N (q := True) hf⟩)
/-- The blocks of Read: its words, its line, its place. -/
structure line_Read.St (w w1 : World) (bl bv bk : Nat) (A : Option Addr) (c n : Nat) (kd m : Int) (nm : ByteArray) (k : Int) : Prop where
  l : w1.heap[bl]? = some (.cells #[.slice A n c] 35 (0, 0))
  v : w1.heap[bv]? = some (.cells #[.int .i64 kd, .int .i64 m, .string nm] 41 (0, 0))
  k : w1.heap[bk]? = some (.cells #[.int .i64 k] 3 (0, 0))
  b : Below w.heap.size w w1
  o0 : w.heap.size ≤ bl
  o1 : bl < bv
  o2 : bv < bk
namespace line_Read
section
variable {w w1 w2 : World} {bl bv bk : Nat} {A : Option Addr} {c n : Nat} {kd m : Int} {nm : ByteArray} {k : Int}
theorem St.below (h : St w w1 bl bv bk A c n kd m nm k) (hb : Below w1.heap.size w1 w2) : St w w2 bl bv bk A c n kd m nm k := ⟨blk_below h.l hb, blk_below h.v hb, blk_below h.k hb, below_step h.b hb, h.o0, h.o1, h.o2⟩
theorem St.drewN (h : St w w1 bl bv bk A c n kd m nm k) (i : Nat) : St w (w1.drewN i) bl bv bk A c n kd m nm k := h.below (pw_below_drewN (Below.refl _ _) i)
theorem St.drew (h : St w w1 bl bv bk A c n kd m nm k) : St w w1.drew bl bv bk A c n kd m nm k := h.below (below_drew (Below.refl _ _))
theorem St.setk (h : St w w1 bl bv bk A c n kd m nm k) (k' : Int) : St w (w1.setCell ⟨bk, 0, none⟩ (.int .i64 k')) bl bv bk A c n kd m nm k' :=
  ⟨blk_far h.l (by exact (by have := h.o1; have := h.o2; omega : bl ≠ bk)) _, blk_far h.v (by exact (by have := h.o2; omega : bv ≠ bk)) _, blk_put h.k 0 _ rfl, below_set h.b (by have := h.o0; have := h.o1; have := h.o2; omega), h.o0, h.o1, h.o2⟩
theorem St.setv0 (h : St w w1 bl bv bk A c n kd m nm k) (x : Int) : St w (w1.setCell ⟨bv, 0, none⟩ (.int .i64 x)) bl bv bk A c n x m nm k :=
  ⟨blk_far h.l (by exact (by have := h.o1; omega : bl ≠ bv)) _, blk_put h.v 0 _ rfl, blk_far h.k (by exact (by have := h.o2; omega : bk ≠ bv)) _, below_set h.b (by have := h.o0; have := h.o1; omega), h.o0, h.o1, h.o2⟩
theorem St.setv1 (h : St w w1 bl bv bk A c n kd m nm k) (x : Int) : St w (w1.setCell ⟨bv, 1, none⟩ (.int .i64 x)) bl bv bk A c n kd x nm k :=
  ⟨blk_far h.l (by exact (by have := h.o1; omega : bl ≠ bv)) _, blk_put h.v 1 _ rfl, blk_far h.k (by exact (by have := h.o2; omega : bk ≠ bv)) _, below_set h.b (by have := h.o0; have := h.o1; omega), h.o0, h.o1, h.o2⟩
theorem St.setv2 (h : St w w1 bl bv bk A c n kd m nm k) (x : ByteArray) : St w (w1.setCell ⟨bv, 2, none⟩ (.string x)) bl bv bk A c n kd m x k :=
  ⟨blk_far h.l (by exact (by have := h.o1; omega : bl ≠ bv)) _, blk_put h.v 2 _ rfl, blk_far h.k (by exact (by have := h.o2; omega : bk ≠ bv)) _, below_set h.b (by have := h.o0; have := h.o1; omega), h.o0, h.o1, h.o2⟩
theorem St.cl (h : St w w1 bl bv bk A c n kd m nm k) : w1.cell? ⟨bl, 0, none⟩ = some (.slice A n c) := (blk_cell h.l 0).trans rfl
theorem St.c0 (h : St w w1 bl bv bk A c n kd m nm k) : w1.cell? ⟨bv, 0, none⟩ = some (.int .i64 kd) := (blk_cell h.v 0).trans rfl
theorem St.c1 (h : St w w1 bl bv bk A c n kd m nm k) : w1.cell? ⟨bv, 1, none⟩ = some (.int .i64 m) := (blk_cell h.v 1).trans rfl
theorem St.c2 (h : St w w1 bl bv bk A c n kd m nm k) : w1.cell? ⟨bv, 2, none⟩ = some (.string nm) := (blk_cell h.v 2).trans rfl
theorem St.ck (h : St w w1 bl bv bk A c n kd m nm k) : w1.cell? ⟨bk, 0, none⟩ = some (.int .i64 k) := (blk_cell h.k 0).trans rfl
theorem St.f (h : St w w1 bl bv bk A c n kd m nm k) : w1.frozen? ⟨bv, 0, none⟩ = false ∧ w1.frozen? ⟨bv, 1, none⟩ = false ∧ w1.frozen? ⟨bv, 2, none⟩ = false ∧ w1.frozen? ⟨bk, 0, none⟩ = false := ⟨blk_frozen h.v 0, blk_frozen h.v 1, blk_frozen h.v 2, blk_frozen h.k 0⟩
theorem St.ne (h : St w w1 bl bv bk A c n kd m nm k) : bv ≠ bk ∧ bk ≠ bv ∧ bl ≠ bv ∧ bl ≠ bk ∧ bv ≠ bl ∧ bk ≠ bl := by have := h.o1; have := h.o2; omega
theorem St.C (h : St w w1 bl bv bk A c n kd m nm k) {α : Type} {d : Kd α} {l : List α} (hr : Kd.C d w A n l) : Kd.C d w1 A n l := Kd.C_below hr h.b
end
set_option maxHeartbeats 4000000 in
set_option maxRecDepth 100000 in
theorem text_calls (bk bl : Nat) (A : Option Addr) (c : Nat) (l : List S67) (k : Int) (w : World) (hk : w.cell? ⟨bk, 0, none⟩ = some (.int .i64 k)) (hl : w.cell? ⟨bl, 0, none⟩ = some (.slice A l.length c)) (hr : Kd.C k67 w A l.length l) (hc : l.length ≤ c) :
    Calls Tryd.prog 44 #[.pointer (some ⟨bk, 0, none⟩), .pointer (some ⟨bl, 0, none⟩)] w fun e w' => e = .returned (.string (line_Read.text l k)) ∧ Drawn0 w w' := by
  have hu := Tryd.underlying67; have hR := am_ hr; unfold line_Read.text; by_cases h : 0 ≤ k ∧ k < (l.length : Int)
  · rw [if_pos h]
    obtain ⟨ad, rfl, h0, h1, h2, h3⟩ := at_T67 hr k h.1 h.2; have p0 := eq_true h.1; have p1 := eq_true h.2; have q0 : decide (0 ≤ k) = true := dt_ h.1; have q1 : decide (k < (l.length : Int)) = true := dt_ h.2; by_cases h4 : (rd_T67 l k).f0 = 1
    · rw [if_pos h4]
      have q4 : ((rd_T67 l k).f0 == 1) = true := by rw [h4]; rfl
      clear h h4 hr hc; go_enter Tryd.func44, Tryd.ntmps44
      go_wp2; go_ret
      exact ⟨rfl, drs_⟩
    rw [if_neg h4]; have q4 : ((rd_T67 l k).f0 == 1) = false := beq_eq_false_iff_ne.2 h4; clear h h4 hr hc; go_enter Tryd.func44, Tryd.ntmps44
    go_wp2; go_ret
    exact ⟨rfl, drs_⟩
  rw [if_neg h]; by_cases h0 : 0 ≤ k
  · have q0 : decide (0 ≤ k) = true := dt_ h0
    have q1 : decide (k < (l.length : Int)) = false := df_ (by omega); clear h h0 hr hc; go_enter Tryd.func44, Tryd.ntmps44
    go_wp2; go_ret
    exact ⟨rfl, drs_⟩
  have q0 : decide (0 ≤ k) = false := df_ h0; clear h h0 hr hc; go_enter Tryd.func44, Tryd.ntmps44
  go_wp2; go_ret
  exact ⟨rfl, drs_⟩
set_option maxHeartbeats 4000000 in
set_option maxRecDepth 100000 in
theorem num_calls (n : Nat) (bl bk : Nat) (A : Option Addr) (c : Nat) (l : List S67) (k : Int) (r : Bool) (w : World) (hl : w.cell? ⟨bl, 0, none⟩ = some (.slice A l.length c)) (hk : w.cell? ⟨bk, 0, none⟩ = some (.int .i64 k)) (hr : Kd.C k67 w A l.length l) (hc : l.length ≤ c) (h : line_Read.num n l k = some r) :
    Calls Tryd.prog 45 #[.pointer (some ⟨bl, 0, none⟩), .pointer (some ⟨bk, 0, none⟩)] w fun e w' => e = .returned (.bool r) ∧ Below w.heap.size w w' := by
  have HR := am_ hr; have HC := am_ hc; have HB := am_ (Below.refl w.heap.size w); unfold line_Read.num at h; obtain ⟨⟨r1, r2, r3⟩, hI, h⟩ := Option.bind_eq_some_iff.1 h; have A1 := am_ hI; obtain rfl := si_ h; clear hI h hr hc; dsimp only; by_cases e0 : r3 = 0
  · have q0 : (r3 == 0) = true := by rw [e0]; rfl
    have q1 : decide (r3 = 0) = true := dt_ e0; rw [q1]; clear e0; go_enter Tryd.func45, Tryd.ntmps45
    go_wp2_with (first | ((with_reducible refine gate_callee (f := 46) rfl ?_); refine goesL_ (some 9) rfl rfl Tryd.func46 (by kernel_rfl) rfl #[.slice A l.length c, .int .i64 k] rfl goa_ ?_; (with_reducible refine (value_Integer.calls n _ _ l k r1 r2 r3 _ ?side1 ?side2 A1.out).mono ?_); (case side1 => repeat (first | exact (Kd.C_below HR.out HB.out) | (with_reducible refine Kd.C_alloc ?_ _) | (with_reducible refine Kd.C_drewN ?_ _) | (with_reducible refine Kd.C_drew ?_))); (case side2 => exact HC.out); rintro e w12 ⟨rfl, hb⟩; refine ⟨_, rfl, ?_⟩; have n0_ := am_ (below_step bel_ hb); clear hb HB; have HB := n0_; clear n0_))
    go_ret
    exact ⟨rfl, bel_⟩
  have q0 : (r3 == 0) = false := beq_eq_false_iff_ne.2 e0; have q1 : decide (r3 = 0) = false := df_ e0; rw [q1]; clear e0; have q2 : decide (r3 = 10) = (r3 == 10) := by rw [Bool.eq_iff_iff]; simp
  rw [q2]; clear q2; go_enter Tryd.func45, Tryd.ntmps45
  go_wp2_with (first | ((with_reducible refine gate_callee (f := 46) rfl ?_); refine goesL_ (some 9) rfl rfl Tryd.func46 (by kernel_rfl) rfl #[.slice A l.length c, .int .i64 k] rfl goa_ ?_; (with_reducible refine (value_Integer.calls n _ _ l k r1 r2 r3 _ ?side1 ?side2 A1.out).mono ?_); (case side1 => repeat (first | exact (Kd.C_below HR.out HB.out) | (with_reducible refine Kd.C_alloc ?_ _) | (with_reducible refine Kd.C_drewN ?_ _) | (with_reducible refine Kd.C_drew ?_))); (case side2 => exact HC.out); rintro e w12 ⟨rfl, hb⟩; refine ⟨_, rfl, ?_⟩; have n0_ := am_ (below_step bel_ hb); clear hb HB; have HB := n0_; clear n0_))
  go_ret
  exact ⟨rfl, bel_⟩
/-- A block that is there lies ahead of a new one. -/
theorem blt_ {w0 W : World} {g g' : Nat} {o : Obj} (b : Aside0 (w0.heap[g]? = some o)) (hg : g' = W.heap.size) (h : W.heap[g]? = some o := by (with_reducible repeat (first | refine blk_drewN ?_ _ | refine blk_drew ?_ | refine blk_alloc ?_ _)); first | (with_reducible exact Aside0.out (by assumption)) | exact Aside0.out (by assumption)) : g < g' := by
  rw [hg]; exact blk_lt h
structure Sa (w w1 : World) (bl bv : Nat) (A : Option Addr) (c n : Nat) (kd m : Int) (nm : ByteArray) : Prop where
  l : w1.heap[bl]? = some (.cells #[.slice A n c] 35 (0, 0))
  v : w1.heap[bv]? = some (.cells #[.int .i64 kd, .int .i64 m, .string nm] 41 (0, 0))
  b : Below w.heap.size w w1
  o0 : w.heap.size ≤ bl
  o1 : bl < bv
section
variable {w w1 w2 : World} {bl bv bk : Nat} {A : Option Addr} {c n : Nat} {kd m : Int} {nm : ByteArray} {k : Int}
theorem Sa.below (h : Sa w w1 bl bv A c n kd m nm) (hb : Below w1.heap.size w1 w2) : Sa w w2 bl bv A c n kd m nm := ⟨blk_below h.l hb, blk_below h.v hb, below_step h.b hb, h.o0, h.o1⟩
theorem Sa.drewN (h : Sa w w1 bl bv A c n kd m nm) (i : Nat) : Sa w (w1.drewN i) bl bv A c n kd m nm := h.below (pw_below_drewN (Below.refl _ _) i)
theorem Sa.drew (h : Sa w w1 bl bv A c n kd m nm) : Sa w w1.drew bl bv A c n kd m nm := h.below (below_drew (Below.refl _ _))
theorem Sa.setv0 (h : Sa w w1 bl bv A c n kd m nm) (x : Int) : Sa w (w1.setCell ⟨bv, 0, none⟩ (.int .i64 x)) bl bv A c n x m nm :=
  ⟨blk_far h.l (by exact (by have := h.o1; omega : bl ≠ bv)) _, blk_put h.v 0 _ rfl, below_set h.b (by have := h.o0; have := h.o1; omega), h.o0, h.o1⟩
theorem Sa.setv1 (h : Sa w w1 bl bv A c n kd m nm) (x : Int) : Sa w (w1.setCell ⟨bv, 1, none⟩ (.int .i64 x)) bl bv A c n kd x nm :=
  ⟨blk_far h.l (by exact (by have := h.o1; omega : bl ≠ bv)) _, blk_put h.v 1 _ rfl, below_set h.b (by have := h.o0; have := h.o1; omega), h.o0, h.o1⟩
theorem Sa.setv2 (h : Sa w w1 bl bv A c n kd m nm) (x : ByteArray) : Sa w (w1.setCell ⟨bv, 2, none⟩ (.string x)) bl bv A c n kd m x :=
  ⟨blk_far h.l (by exact (by have := h.o1; omega : bl ≠ bv)) _, blk_put h.v 2 _ rfl, below_set h.b (by have := h.o0; have := h.o1; omega), h.o0, h.o1⟩
theorem Sa.cl (h : Sa w w1 bl bv A c n kd m nm) : w1.cell? ⟨bl, 0, none⟩ = some (.slice A n c) := (blk_cell h.l 0).trans rfl
theorem Sa.c0 (h : Sa w w1 bl bv A c n kd m nm) : w1.cell? ⟨bv, 0, none⟩ = some (.int .i64 kd) := (blk_cell h.v 0).trans rfl
theorem Sa.c1 (h : Sa w w1 bl bv A c n kd m nm) : w1.cell? ⟨bv, 1, none⟩ = some (.int .i64 m) := (blk_cell h.v 1).trans rfl
theorem Sa.c2 (h : Sa w w1 bl bv A c n kd m nm) : w1.cell? ⟨bv, 2, none⟩ = some (.string nm) := (blk_cell h.v 2).trans rfl
theorem Sa.f (h : Sa w w1 bl bv A c n kd m nm) : w1.frozen? ⟨bv, 0, none⟩ = false ∧ w1.frozen? ⟨bv, 1, none⟩ = false ∧ w1.frozen? ⟨bv, 2, none⟩ = false := ⟨blk_frozen h.v 0, blk_frozen h.v 1, blk_frozen h.v 2⟩
theorem Sa.ne (h : Sa w w1 bl bv A c n kd m nm) : bl ≠ bv ∧ bv ≠ bl := by have := h.o1; omega
theorem Sa.C (h : Sa w w1 bl bv A c n kd m nm) {α : Type} {d : Kd α} {l : List α} (hr : Kd.C d w A n l) : Kd.C d w1 A n l := Kd.C_below hr h.b
theorem Sa.st (h : Sa w w1 bl bv A c n kd m nm) {T : TypeId} (hT : T = 3) (hg : bk = w1.heap.size) (hx : w2.heap[bk]? = some (.cells #[.int .i64 k] T (0, 0))) (hb : Below w1.heap.size w1 w2) : St w w2 bl bv bk A c n kd m nm k := by
  subst hT; exact ⟨blk_below h.l hb, blk_below h.v hb, hx, below_step h.b hb, h.o0, h.o1, by rw [hg]; exact blk_lt h.v⟩
end
theorem san_ {P : Prop} (h : P := by repeat (first | (with_reducible first | exact HX.out | apply Sa.drewN | apply Sa.drew | apply Sa.setv0 | apply Sa.setv1 | apply Sa.setv2))) : P := h
theorem stn_ {P : Prop} (h : P := by repeat (first | (with_reducible first | exact HX.out | apply St.drewN | apply St.drew | apply St.setk | apply St.setv0 | apply St.setv1 | apply St.setv2))) : P := h
theorem at_ {P : Program} {id : Nat} {ops : Array Oper} {b : Bool} {Q : Exit → Act → World → Prop} {a : Act} {W : World} (h : ∀ w', w' = W → (Code.region id ops b).wp P Q a w') : (Code.region id ops b).wp P Q a W := h W rfl
def Read.T22 : Bool × List (List Nat × List Nat) := (true, [([], []), ([], []), ([0, 0], [0]), ([1, 2, 0, 1, 2], [1]), ([3, 0, 1, 2, 3], [])])
def Read.B22 : List Nat := [0, 0, 1, 7, 15]
theorem Read.tab22 : rtab .any (opsOf Tryd.f23 22) = Read.T22 := by kernel_rfl
theorem Read.bits22 : waitsOk Read.T22.2 Read.B22 = true := by kernel_rfl
def Read.T27 : Bool × List (List Nat × List Nat) := (true, [([], []), ([], []), ([0, 0], [0]), ([1, 2, 0, 1, 2], [1]), ([3, 0, 1, 2, 3], [])])
def Read.B27 : List Nat := [0, 0, 1, 7, 15]
theorem Read.tab27 : rtab .any (opsOf Tryd.f23 27) = Read.T27 := by kernel_rfl
theorem Read.bits27 : waitsOk Read.T27.2 Read.B27 = true := by kernel_rfl
def Read.T36 : Bool × List (List Nat × List Nat) := (true, [([], []), ([], []), ([0, 0], [0]), ([1, 2, 0, 1, 2], [1]), ([3, 0, 1, 2, 3], [])])
def Read.B36 : List Nat := [0, 0, 1, 7, 15]
theorem Read.tab36 : rtab .any (opsOf Tryd.f23 36) = Read.T36 := by kernel_rfl
theorem Read.bits36 : waitsOk Read.T36.2 Read.B36 = true := by kernel_rfl
set_option maxHeartbeats 16000000 in
set_option maxRecDepth 100000 in
theorem calls (k : Nat) (A0 : Option Addr) (c0 : Nat) (l0 : List S67) (a1 r1 r2 : Int) (r3 : ByteArray) (r4 r5 : Int) (w : World) (hr0 : Kd.C k67 w A0 l0.length l0) (hc0 : l0.length ≤ c0) (h : line_Read.f k l0 a1 = some (r1, r2, r3, r4, r5)) :
    Calls Tryd.prog 23 #[.slice A0 l0.length c0, .int .i64 a1] w fun e w' => e = .returned (.tuple #[.agg #[.int .i64 r1, .int .i64 r2, .string r3], .int .i64 r4, .int .i64 r5]) ∧ Below w.heap.size w w' := by
  have hu := Tryd.underlying67; have hu2 := Tryd.underlying41; have HR := am_ hr0; have HC := am_ hc0; have HB := am_ (Below.refl w.heap.size w); unfold line_Read.f at h; obtain ⟨ys, hys⟩ : ∃ ys, line_Read.keys = ys := ⟨_, rfl⟩
  rw [hys] at h; have NY := am_ hys; replace h := bs_ h; obtain ⟨⟨t1, t2⟩, hk, h⟩ := h; have A1 := am_ hk; clear hys hk hr0 hc0; dsimp only at h; by_cases e0 : t1 = 0
  · rw [if_pos e0] at h
    replace h := bs_ h; obtain ⟨⟨u1, u2, u3⟩, hau, h⟩ := h; have A2 := am_ hau; simp only [Option.some.injEq, Prod.mk.injEq] at h; obtain ⟨rfl, rfl, rfl, rfl, rfl⟩ := h; have q0 : (t1 == 0) = true := by rw [e0]; rfl
    clear e0 hau; go_enter Tryd.func23, Tryd.ntmps23
    go_wp2_with (first | go_step3 | ((with_reducible refine gate_dst (N := 2) rfl ?_); refine box_event ?hg (N := 2) ?hd (cs := #[.slice A0 l0.length c0]) (t := 35) ?hr ?_; (case hd => rfl); (case hg => rfl); (case hr => first | (go_simp; done) | (go_simp; rfl)); intro bl hg w2 hbox hb; have n0_ := am_ (below_step bel_ hb); have BL := am_ hbox; have OL := am_ ((bsz_ hg : w.heap.size ≤ bl)); clear HB; have HB := n0_; clear n0_ hb hbox hg) | ((with_reducible refine gate_dst (N := 4) rfl ?_); refine box_event ?hg (N := 4) ?hd (cs := #[.int .i64 0, .int .i64 0, .string (⟨#[]⟩ : ByteArray)]) (t := 41) ?hr ?_; (case hd => rfl); (case hg => rfl); (case hr => first | (go_simp; done) | (go_simp; rfl)); intro bv hg w3 hbox hb; have HX : Aside0 (Sa w w3 bl bv A0 c0 l0.length 0 0 ⟨#[]⟩) := ⟨⟨(blb_ BL hb).out, hbox, below_step bel_ hb, OL.out, blt_ BL hg⟩⟩; clear HB BL OL hb hbox hg; have hcl := HX.out.cl; have hc0 := HX.out.c0; have hc1 := HX.out.c1; have hc2 := HX.out.c2; obtain ⟨hz0, hz1, hz2⟩ := HX.out.f; obtain ⟨hn0, hn1⟩ := HX.out.ne) | ((with_reducible refine gate_dst (N := 21) rfl ?_); refine Kd.R_lit Kd.string _ 9 ?hg (N := 21) ?hd (xs := line_Read.keys) (inner := [.string (⟨#[97, 117, 116, 111]⟩ : ByteArray), .string (⟨#[105, 110, 104, 101, 114, 105, 116]⟩ : ByteArray), .string (⟨#[105, 110, 105, 116, 105, 97, 108]⟩ : ByteArray), .string (⟨#[117, 110, 115, 101, 116]⟩ : ByteArray), .string (⟨#[114, 101, 118, 101, 114, 116]⟩ : ByteArray)]) (ok := fun _ => True) (okp := fun _ => True) ?hr ?hp (fun _ hk => hk) trivial (Below.refl _ _) (Nat.le_refl _) (by unfold line_Read.keys; simp) ?_; (case hd => rfl); (case hg => rfl); (case hr => first | (go_simp; done) | (go_simp; rfl)); (case hp => exact (Reps.one (show Kd.M Kd.string _ _ _ (⟨#[97, 117, 116, 111]⟩ : ByteArray) [.string (⟨#[97, 117, 116, 111]⟩ : ByteArray)] from rfl) (Reps.one (show Kd.M Kd.string _ _ _ (⟨#[105, 110, 104, 101, 114, 105, 116]⟩ : ByteArray) [.string (⟨#[105, 110, 104, 101, 114, 105, 116]⟩ : ByteArray)] from rfl) (Reps.one (show Kd.M Kd.string _ _ _ (⟨#[105, 110, 105, 116, 105, 97, 108]⟩ : ByteArray) [.string (⟨#[105, 110, 105, 116, 105, 97, 108]⟩ : ByteArray)] from rfl) (Reps.one (show Kd.M Kd.string _ _ _ (⟨#[117, 110, 115, 101, 116]⟩ : ByteArray) [.string (⟨#[117, 110, 115, 101, 116]⟩ : ByteArray)] from rfl) (Reps.one (show Kd.M Kd.string _ _ _ (⟨#[114, 101, 118, 101, 114, 116]⟩ : ByteArray) [.string (⟨#[114, 101, 118, 101, 114, 116]⟩ : ByteArray)] from rfl) (Reps.none _ _))))))); intro v9 w9 ho10 hb hg_ hnew_; clear hg_ hnew_; rw [NY.out] at ho10; have HO := am_ ho10; have n0_ := am_ (Sa.below (san_ : Sa w _ bl bv A0 c0 l0.length _ _ _) hb); clear HX; have HX := n0_; clear n0_ hb ho10; obtain ⟨Ao, co, eo⟩ := Kd.R_slice HO.out; subst eo) | ((with_reducible refine gate_callee (f := 37) rfl ?_); refine goesL_ (some 22) rfl rfl Tryd.func37 (by kernel_rfl) rfl #[.slice A0 l0.length c0, .int .i64 a1, .slice Ao ys.length co] rfl goa_ ?_; (with_reducible refine (value_Keyword.calls k _ _ l0 a1 _ _ ys t1 t2 _ ?side1 ?side2 ?side3 ?side4 A1.out).mono ?_); (case side1 => exact Sa.C (san_ : Sa w _ bl bv A0 c0 l0.length _ _ _) HR.out); (case side2 => exact HC.out); (case side3 => repeat (first | exact (Kd.R_reads' HO.out).2.2 | (with_reducible refine Kd.C_alloc ?_ _) | (with_reducible refine Kd.C_drewN ?_ _) | (with_reducible refine Kd.C_drew ?_))); (case side4 => exact (Kd.R_reads' HO.out).2.1); rintro e w12 ⟨rfl, hb⟩; refine ⟨_, rfl, ?_⟩; have n0_ := am_ (Sa.below (san_ : Sa w _ bl bv A0 c0 l0.length _ _ _) hb); clear HX HO; have HX := n0_; clear n0_ hb; have hcl := HX.out.cl; have hc0 := HX.out.c0; have hc1 := HX.out.c1; have hc2 := HX.out.c2; obtain ⟨hz0, hz1, hz2⟩ := HX.out.f; obtain ⟨hn0, hn1⟩ := HX.out.ne) | (go_at_call 41; with_reducible refine (line_auto.calls u1 u2 u3 _ A2.out).mono ?_; rintro e w13 ⟨rfl, hb⟩; have n0_ := am_ (Sa.below (san_ : Sa w _ bl bv A0 c0 l0.length _ _ _) hb); clear HX; have HX := n0_; clear n0_ hb; have hcl := HX.out.cl; have hc0 := HX.out.c0; have hc1 := HX.out.c1; have hc2 := HX.out.c2; obtain ⟨hz0, hz1, hz2⟩ := HX.out.f; obtain ⟨hn0, hn1⟩ := HX.out.ne))
    (try (rw [Exit.noGoto_ret]; try dsimp only [Exit.inBlock, Exit.then]))
    refine bodyPost_ret (results_ctt rfl _ _ bv 41 #[.int .i64 u1, .int .i64 u2, .string u3] (0, 0) _ rfl ((san_ : Sa w _ bl bv A0 c0 l0.length u1 u2 u3)).v Tryd.underlying41 rfl (by kernel_rfl)) rfl ?_
    exact ⟨rsl_, ((san_ : Sa w _ bl bv A0 c0 l0.length u1 u2 u3)).b⟩
  rw [if_neg e0] at h; have q0 : (t1 == 0) = false := beq_eq_false_iff_ne.2 e0; clear e0; by_cases e1 : t1 > 0
  · rw [if_pos e1] at h
    have q1 : decide (0 < t1) = true := dt_ e1; simp only [Option.some.injEq, Prod.mk.injEq] at h; obtain ⟨rfl, rfl, rfl, rfl, rfl⟩ := h; clear e1; go_enter Tryd.func23, Tryd.ntmps23
    go_wp2_with (first | go_step3 | ((with_reducible refine gate_dst (N := 2) rfl ?_); refine box_event ?hg (N := 2) ?hd (cs := #[.slice A0 l0.length c0]) (t := 35) ?hr ?_; (case hd => rfl); (case hg => rfl); (case hr => first | (go_simp; done) | (go_simp; rfl)); intro bl hg w2 hbox hb; have n0_ := am_ (below_step bel_ hb); have BL := am_ hbox; have OL := am_ ((bsz_ hg : w.heap.size ≤ bl)); clear HB; have HB := n0_; clear n0_ hb hbox hg) | ((with_reducible refine gate_dst (N := 4) rfl ?_); refine box_event ?hg (N := 4) ?hd (cs := #[.int .i64 0, .int .i64 0, .string (⟨#[]⟩ : ByteArray)]) (t := 41) ?hr ?_; (case hd => rfl); (case hg => rfl); (case hr => first | (go_simp; done) | (go_simp; rfl)); intro bv hg w3 hbox hb; have HX : Aside0 (Sa w w3 bl bv A0 c0 l0.length 0 0 ⟨#[]⟩) := ⟨⟨(blb_ BL hb).out, hbox, below_step bel_ hb, OL.out, blt_ BL hg⟩⟩; clear HB BL OL hb hbox hg; have hcl := HX.out.cl; have hc0 := HX.out.c0; have hc1 := HX.out.c1; have hc2 := HX.out.c2; obtain ⟨hz0, hz1, hz2⟩ := HX.out.f; obtain ⟨hn0, hn1⟩ := HX.out.ne) | ((with_reducible refine gate_dst (N := 21) rfl ?_); refine Kd.R_lit Kd.string _ 9 ?hg (N := 21) ?hd (xs := line_Read.keys) (inner := [.string (⟨#[97, 117, 116, 111]⟩ : ByteArray), .string (⟨#[105, 110, 104, 101, 114, 105, 116]⟩ : ByteArray), .string (⟨#[105, 110, 105, 116, 105, 97, 108]⟩ : ByteArray), .string (⟨#[117, 110, 115, 101, 116]⟩ : ByteArray), .string (⟨#[114, 101, 118, 101, 114, 116]⟩ : ByteArray)]) (ok := fun _ => True) (okp := fun _ => True) ?hr ?hp (fun _ hk => hk) trivial (Below.refl _ _) (Nat.le_refl _) (by unfold line_Read.keys; simp) ?_; (case hd => rfl); (case hg => rfl); (case hr => first | (go_simp; done) | (go_simp; rfl)); (case hp => exact (Reps.one (show Kd.M Kd.string _ _ _ (⟨#[97, 117, 116, 111]⟩ : ByteArray) [.string (⟨#[97, 117, 116, 111]⟩ : ByteArray)] from rfl) (Reps.one (show Kd.M Kd.string _ _ _ (⟨#[105, 110, 104, 101, 114, 105, 116]⟩ : ByteArray) [.string (⟨#[105, 110, 104, 101, 114, 105, 116]⟩ : ByteArray)] from rfl) (Reps.one (show Kd.M Kd.string _ _ _ (⟨#[105, 110, 105, 116, 105, 97, 108]⟩ : ByteArray) [.string (⟨#[105, 110, 105, 116, 105, 97, 108]⟩ : ByteArray)] from rfl) (Reps.one (show Kd.M Kd.string _ _ _ (⟨#[117, 110, 115, 101, 116]⟩ : ByteArray) [.string (⟨#[117, 110, 115, 101, 116]⟩ : ByteArray)] from rfl) (Reps.one (show Kd.M Kd.string _ _ _ (⟨#[114, 101, 118, 101, 114, 116]⟩ : ByteArray) [.string (⟨#[114, 101, 118, 101, 114, 116]⟩ : ByteArray)] from rfl) (Reps.none _ _))))))); intro v9 w9 ho10 hb hg_ hnew_; clear hg_ hnew_; rw [NY.out] at ho10; have HO := am_ ho10; have n0_ := am_ (Sa.below (san_ : Sa w _ bl bv A0 c0 l0.length _ _ _) hb); clear HX; have HX := n0_; clear n0_ hb ho10; obtain ⟨Ao, co, eo⟩ := Kd.R_slice HO.out; subst eo) | ((with_reducible refine gate_callee (f := 37) rfl ?_); refine goesL_ (some 22) rfl rfl Tryd.func37 (by kernel_rfl) rfl #[.slice A0 l0.length c0, .int .i64 a1, .slice Ao ys.length co] rfl goa_ ?_; (with_reducible refine (value_Keyword.calls k _ _ l0 a1 _ _ ys t1 t2 _ ?side1 ?side2 ?side3 ?side4 A1.out).mono ?_); (case side1 => exact Sa.C (san_ : Sa w _ bl bv A0 c0 l0.length _ _ _) HR.out); (case side2 => exact HC.out); (case side3 => repeat (first | exact (Kd.R_reads' HO.out).2.2 | (with_reducible refine Kd.C_alloc ?_ _) | (with_reducible refine Kd.C_drewN ?_ _) | (with_reducible refine Kd.C_drew ?_))); (case side4 => exact (Kd.R_reads' HO.out).2.1); rintro e w12 ⟨rfl, hb⟩; refine ⟨_, rfl, ?_⟩; have n0_ := am_ (Sa.below (san_ : Sa w _ bl bv A0 c0 l0.length _ _ _) hb); clear HX HO; have HX := n0_; clear n0_ hb; have hcl := HX.out.cl; have hc0 := HX.out.c0; have hc1 := HX.out.c1; have hc2 := HX.out.c2; obtain ⟨hz0, hz1, hz2⟩ := HX.out.f; obtain ⟨hn0, hn1⟩ := HX.out.ne))
    (try (rw [Exit.noGoto_ret]; try dsimp only [Exit.inBlock, Exit.then]))
    refine bodyPost_ret (results_ctt rfl _ _ bv 41 #[.int .i64 0, .int .i64 0, .string (⟨#[]⟩ : ByteArray)] (0, 0) _ rfl ((san_ : Sa w _ bl bv A0 c0 l0.length 0 0 ⟨#[]⟩)).v Tryd.underlying41 rfl (by kernel_rfl)) rfl ?_
    exact ⟨rsl_, ((san_ : Sa w _ bl bv A0 c0 l0.length 0 0 ⟨#[]⟩)).b⟩
  rw [if_neg e1] at h; have q1 : decide (0 < t1) = false := df_ e1; clear e1; replace h := bs_ h; obtain ⟨⟨nu, sp, kk, nm⟩, hl, h⟩ := h; have HL := am_ hl; have HF := am_ h; clear hl h; dsimp only at HF; go_enter Tryd.func23, Tryd.ntmps23
  go_upto_block 1 with (first | go_step3 | ((with_reducible refine gate_dst (N := 2) rfl ?_); refine box_event ?hg (N := 2) ?hd (cs := #[.slice A0 l0.length c0]) (t := 35) ?hr ?_; (case hd => rfl); (case hg => rfl); (case hr => first | (go_simp; done) | (go_simp; rfl)); intro bl hg w2 hbox hb; have n0_ := am_ (below_step bel_ hb); have BL := am_ hbox; have OL := am_ ((bsz_ hg : w.heap.size ≤ bl)); clear HB; have HB := n0_; clear n0_ hb hbox hg) | ((with_reducible refine gate_dst (N := 4) rfl ?_); refine box_event ?hg (N := 4) ?hd (cs := #[.int .i64 0, .int .i64 0, .string (⟨#[]⟩ : ByteArray)]) (t := 41) ?hr ?_; (case hd => rfl); (case hg => rfl); (case hr => first | (go_simp; done) | (go_simp; rfl)); intro bv hg w3 hbox hb; have HX : Aside0 (Sa w w3 bl bv A0 c0 l0.length 0 0 ⟨#[]⟩) := ⟨⟨(blb_ BL hb).out, hbox, below_step bel_ hb, OL.out, blt_ BL hg⟩⟩; clear HB BL OL hb hbox hg; have hcl := HX.out.cl; have hc0 := HX.out.c0; have hc1 := HX.out.c1; have hc2 := HX.out.c2; obtain ⟨hz0, hz1, hz2⟩ := HX.out.f; obtain ⟨hn0, hn1⟩ := HX.out.ne) | ((with_reducible refine gate_dst (N := 21) rfl ?_); refine Kd.R_lit Kd.string _ 9 ?hg (N := 21) ?hd (xs := line_Read.keys) (inner := [.string (⟨#[97, 117, 116, 111]⟩ : ByteArray), .string (⟨#[105, 110, 104, 101, 114, 105, 116]⟩ : ByteArray), .string (⟨#[105, 110, 105, 116, 105, 97, 108]⟩ : ByteArray), .string (⟨#[117, 110, 115, 101, 116]⟩ : ByteArray), .string (⟨#[114, 101, 118, 101, 114, 116]⟩ : ByteArray)]) (ok := fun _ => True) (okp := fun _ => True) ?hr ?hp (fun _ hk => hk) trivial (Below.refl _ _) (Nat.le_refl _) (by unfold line_Read.keys; simp) ?_; (case hd => rfl); (case hg => rfl); (case hr => first | (go_simp; done) | (go_simp; rfl)); (case hp => exact (Reps.one (show Kd.M Kd.string _ _ _ (⟨#[97, 117, 116, 111]⟩ : ByteArray) [.string (⟨#[97, 117, 116, 111]⟩ : ByteArray)] from rfl) (Reps.one (show Kd.M Kd.string _ _ _ (⟨#[105, 110, 104, 101, 114, 105, 116]⟩ : ByteArray) [.string (⟨#[105, 110, 104, 101, 114, 105, 116]⟩ : ByteArray)] from rfl) (Reps.one (show Kd.M Kd.string _ _ _ (⟨#[105, 110, 105, 116, 105, 97, 108]⟩ : ByteArray) [.string (⟨#[105, 110, 105, 116, 105, 97, 108]⟩ : ByteArray)] from rfl) (Reps.one (show Kd.M Kd.string _ _ _ (⟨#[117, 110, 115, 101, 116]⟩ : ByteArray) [.string (⟨#[117, 110, 115, 101, 116]⟩ : ByteArray)] from rfl) (Reps.one (show Kd.M Kd.string _ _ _ (⟨#[114, 101, 118, 101, 114, 116]⟩ : ByteArray) [.string (⟨#[114, 101, 118, 101, 114, 116]⟩ : ByteArray)] from rfl) (Reps.none _ _))))))); intro v9 w9 ho10 hb hg_ hnew_; clear hg_ hnew_; rw [NY.out] at ho10; have HO := am_ ho10; have n0_ := am_ (Sa.below (san_ : Sa w _ bl bv A0 c0 l0.length _ _ _) hb); clear HX; have HX := n0_; clear n0_ hb ho10; obtain ⟨Ao, co, eo⟩ := Kd.R_slice HO.out; subst eo) | ((with_reducible refine gate_callee (f := 37) rfl ?_); refine goesL_ (some 22) rfl rfl Tryd.func37 (by kernel_rfl) rfl #[.slice A0 l0.length c0, .int .i64 a1, .slice Ao ys.length co] rfl goa_ ?_; (with_reducible refine (value_Keyword.calls k _ _ l0 a1 _ _ ys t1 t2 _ ?side1 ?side2 ?side3 ?side4 A1.out).mono ?_); (case side1 => exact Sa.C (san_ : Sa w _ bl bv A0 c0 l0.length _ _ _) HR.out); (case side2 => exact HC.out); (case side3 => repeat (first | exact (Kd.R_reads' HO.out).2.2 | (with_reducible refine Kd.C_alloc ?_ _) | (with_reducible refine Kd.C_drewN ?_ _) | (with_reducible refine Kd.C_drew ?_))); (case side4 => exact (Kd.R_reads' HO.out).2.1); rintro e w12 ⟨rfl, hb⟩; refine ⟨_, rfl, ?_⟩; have n0_ := am_ (Sa.below (san_ : Sa w _ bl bv A0 c0 l0.length _ _ _) hb); clear HX HO; have HX := n0_; clear n0_ hb; have hcl := HX.out.cl; have hc0 := HX.out.c0; have hc1 := HX.out.c1; have hc2 := HX.out.c2; obtain ⟨hz0, hz1, hz2⟩ := HX.out.f; obtain ⟨hn0, hn1⟩ := HX.out.ne) | ((with_reducible refine gate_dst (N := 11) rfl ?_); refine box_event ?hg (N := 11) ?hd (cs := #[.int .i64 0]) (t := 3) ?hr ?_; (case hd => rfl); (case hg => rfl); (case hr => first | (go_simp; done) | (go_simp; rfl)); intro bk hg w14 hbox hb; have n0_ := am_ (Sa.st (k := 0) (san_ : Sa w _ bl bv A0 c0 l0.length _ _ _) rfl hg hbox hb); clear HX; have HX := n0_; clear n0_ hb hbox hg; have hcl := HX.out.cl; have hc0 := HX.out.c0; have hc1 := HX.out.c1; have hc2 := HX.out.c2; have hck := HX.out.ck; obtain ⟨hz0, hz1, hz2, hzk⟩ := HX.out.f; obtain ⟨hn0, hn1, hn2, hn3, hn4, hn5⟩ := HX.out.ne))
  go_cut [9, 10] (fun v9 v10 wc => v9 = .int .i64 nu ∧ v10 = .int .i64 sp ∧ Aside0 (St w wc bl bv bk A0 c0 l0.length 0 0 nm kk))
  case first =>
    clear HF; go_wp2_with (first | go_step3)
    go_loopg [9, 10] k (fun kq v9 v10 wr => ∃ (nu1 sp1 k1 : Int) (nm1 : ByteArray), v9 = .int .i64 nu1 ∧ v10 = .int .i64 sp1 ∧ Aside0 (line_Read.l0 kq l0 a1 nu1 sp1 k1 nm1 = some (nu, sp, kk, nm)) ∧ Aside0 (St w wr bl bv bk A0 c0 l0.length 0 0 nm1 k1))
    case atStart => exact ⟨-1, -1, a1, ⟨#[]⟩, rfl, rfl, HL, ⟨(stn_ : St w _ bl bv bk A0 c0 l0.length _ _ _ _)⟩⟩
    case round =>
      clear HX hcl hc0 hc1 hc2 hck hz0 hz1 hz2 hzk HL; obtain ⟨nu1, sp1, k1, nm1, rfl, rfl, HL, HX⟩ := hrel; have hcl := HX.out.cl; have hc0 := HX.out.c0; have hc1 := HX.out.c1; have hc2 := HX.out.c2; have hck := HX.out.ck; obtain ⟨hz0, hz1, hz2, hzk⟩ := HX.out.f
      cases gk with
      | zero => exact absurd HL.out (by simp [line_Read.l0])
      | succ kq =>
        have hl := l0_step HL.out; clear HL; rcases hl with ⟨qn, AN, HL⟩ | ⟨⟨qn, AN⟩ | qn, ⟨AS, qs, qk, hR⟩ | ⟨AS, qs, qk, HL⟩ | ⟨⟨AS, qs⟩ | AS, ⟨qm, AC, HL⟩ | ⟨qm, AC, hR⟩ | ⟨qm, hR⟩⟩⟩
        all_goals try (simp only [Prod.mk.injEq] at hR; obtain ⟨rfl, rfl, rfl, rfl⟩ := hR)
        all_goals (go_wp2_with (first | go_step3 | (go_at_call 44; with_reducible refine (text_calls bk bl A0 c0 l0 k1 _ ?g1 ?g2 ?g3 HC.out).mono ?_; (case g1 => exact St.ck (stn_ : St w _ bl bv bk A0 c0 l0.length _ _ _ _)); (case g2 => exact St.cl (stn_ : St w _ bl bv bk A0 c0 l0.length _ _ _ _)); (case g3 => exact St.C (stn_ : St w _ bl bv bk A0 c0 l0.length _ _ _ _) HR.out); rintro e w5 ⟨rfl, ⟨nd, rfl⟩⟩) | (go_at_call 45; with_reducible refine (num_calls kq bl bk A0 c0 l0 k1 _ _ ?g1 ?g2 ?g3 HC.out AN.out).mono ?_; (case g1 => exact St.cl (stn_ : St w _ bl bv bk A0 c0 l0.length _ _ _ _)); (case g2 => exact St.ck (stn_ : St w _ bl bv bk A0 c0 l0.length _ _ _ _)); (case g3 => exact St.C (stn_ : St w _ bl bv bk A0 c0 l0.length _ _ _ _) HR.out); rintro e w6 ⟨rfl, hb⟩; have n0_ := am_ (St.below (stn_ : St w _ bl bv bk A0 c0 l0.length _ _ _ _) hb); clear HX; have HX := n0_; clear n0_ hb; have hcl := HX.out.cl; have hc0 := HX.out.c0; have hc1 := HX.out.c1; have hc2 := HX.out.c2; have hck := HX.out.ck; obtain ⟨hz0, hz1, hz2, hzk⟩ := HX.out.f; obtain ⟨hn0, hn1, hn2, hn3, hn4, hn5⟩ := HX.out.ne) | (go_at_call 47; with_reducible refine (ident_Is.calls _ _ _ _ AS.out).mono ?_; rintro e w7 ⟨rfl, hb⟩; have n0_ := am_ (St.below (stn_ : St w _ bl bv bk A0 c0 l0.length _ _ _ _) hb); clear HX; have HX := n0_; clear n0_ hb; have hcl := HX.out.cl; have hc0 := HX.out.c0; have hc1 := HX.out.c1; have hc2 := HX.out.c2; have hck := HX.out.ck; obtain ⟨hz0, hz1, hz2, hzk⟩ := HX.out.f; obtain ⟨hn0, hn1, hn2, hn3, hn4, hn5⟩ := HX.out.ne) | (go_at_call 40; with_reducible refine (ident_Custom.calls _ _ _ AC.out).mono ?_; rintro e w8 ⟨rfl, hb⟩; have n0_ := am_ (St.below (stn_ : St w _ bl bv bk A0 c0 l0.length _ _ _ _) hb); clear HX; have HX := n0_; clear n0_ hb; have hcl := HX.out.cl; have hc0 := HX.out.c0; have hc1 := HX.out.c1; have hc2 := HX.out.c2; have hck := HX.out.ck; obtain ⟨hz0, hz1, hz2, hzk⟩ := HX.out.f; obtain ⟨hn0, hn1, hn2, hn3, hn4, hn5⟩ := HX.out.ne)))
        all_goals (first | (go_roundg kq; (case measure => omega); (case rel => exact ⟨_, _, _, _, rfl, rfl, HL, ⟨(stn_ : St w _ bl bv bk A0 c0 l0.length _ _ _ _)⟩⟩)) | (go_meet; case rel => exact ⟨rfl, rfl, ⟨(stn_ : St w _ bl bv bk A0 c0 l0.length _ _ _ _)⟩⟩))
  obtain ⟨rfl, rfl, HX⟩ := hcut; have hcl := HX.out.cl; have hc0 := HX.out.c0; have hc1 := HX.out.c1; have hc2 := HX.out.c2; have hck := HX.out.ck; obtain ⟨hz0, hz1, hz2, hzk⟩ := HX.out.f; have h := HF.out; clear HF HL; unfold line_Read.fin at h; by_cases e1 : kk = a1
  · have e1q : (kk == a1) = true := beq_iff_eq.2 e1
    rw [if_pos e1] at h; simp only [Option.some.injEq, Prod.mk.injEq] at h; obtain ⟨rfl, rfl, rfl, rfl, rfl⟩ := h; go_wp2_with (first | go_step3 | (go_at_call 46; with_reducible refine (value_Integer.calls k _ _ l0 nu r1 r2 r3 _ ?g1 HC.out AI.out).mono ?_; (case g1 => exact St.C (stn_ : St w _ bl bv bk A0 c0 l0.length _ _ _ _) HR.out); rintro e w9 ⟨rfl, hb⟩; have n0_ := am_ (St.below (stn_ : St w _ bl bv bk A0 c0 l0.length _ _ _ _) hb); clear HX; have HX := n0_; clear n0_ hb; have hcl := HX.out.cl; have hc0 := HX.out.c0; have hc1 := HX.out.c1; have hc2 := HX.out.c2; have hck := HX.out.ck; obtain ⟨hz0, hz1, hz2, hzk⟩ := HX.out.f; obtain ⟨hn0, hn1, hn2, hn3, hn4, hn5⟩ := HX.out.ne))
    (try (rw [Exit.noGoto_ret]; try dsimp only [Exit.inBlock, Exit.then]))
    refine bodyPost_ret (results_ctt rfl _ _ bv 41 #[.int .i64 0, .int .i64 0, .string nm] (0, 0) _ rfl ((stn_ : St w _ bl bv bk A0 c0 l0.length 0 0 nm _)).v Tryd.underlying41 rfl (by kernel_rfl)) rfl ?_
    exact ⟨rsl_, ((stn_ : St w _ bl bv bk A0 c0 l0.length 0 0 nm _)).b⟩
  have e1q : (kk == a1) = false := beq_eq_false_iff_ne.2 e1; rw [if_neg e1] at h; by_cases e2 : sp ≥ 0
  · have e2q : decide (0 ≤ sp) = true := dt_ e2
    by_cases e3 : nu < 0
    · have e3q : decide (nu < 0) = true := dt_ e3
      by_cases e4 : nm.toList = []
      · have e4q : (nm.toList == ([] : List UInt8)) = true := beq_iff_eq.mpr e4
        rw [if_pos ⟨e2, e3, e4⟩] at h; simp only [Option.some.injEq, Prod.mk.injEq] at h; obtain ⟨rfl, rfl, rfl, rfl, rfl⟩ := h; go_wp2_with (first | go_step3 | (go_at_call 46; with_reducible refine (value_Integer.calls k _ _ l0 nu r1 r2 r3 _ ?g1 HC.out AI.out).mono ?_; (case g1 => exact St.C (stn_ : St w _ bl bv bk A0 c0 l0.length _ _ _ _) HR.out); rintro e w9 ⟨rfl, hb⟩; have n0_ := am_ (St.below (stn_ : St w _ bl bv bk A0 c0 l0.length _ _ _ _) hb); clear HX; have HX := n0_; clear n0_ hb; have hcl := HX.out.cl; have hc0 := HX.out.c0; have hc1 := HX.out.c1; have hc2 := HX.out.c2; have hck := HX.out.ck; obtain ⟨hz0, hz1, hz2, hzk⟩ := HX.out.f; obtain ⟨hn0, hn1, hn2, hn3, hn4, hn5⟩ := HX.out.ne))
        refine at_ (fun w4 hw4 => ?_)
        have HX4 : Aside0 (St w w4.drew bl bv bk A0 c0 l0.length 0 0 nm kk) := ⟨St.drew (by rw [hw4]; exact stn_)⟩
        clear hw4 HX hcl hc0 hc1 hc2 hck hz0 hz1 hz2 hzk; refine start_ (n := 5) (S := (fun w' => w'.cell? ⟨bv, 0, none⟩ = some (.int .i64 0) ∧ w'.cell? ⟨bv, 1, none⟩ = some (.int .i64 0) ∧ w'.cell? ⟨bv, 2, none⟩ = some (.string nm) ∧ w'.cell? ⟨bk, 0, none⟩ = some (.int .i64 kk))) (ds := []) #[false, false, false, false, false] (by kernel_rfl) rfl rfl ⟨HX4.out.c0, HX4.out.c1, HX4.out.c2, HX4.out.ck⟩ (fun hHeld => ?_)
        refine with_tabW Read.tab22 Read.bits22 (fun HT_ HW_ => ?_)
        generalize w4.drew = w5 at HX4 hHeld ⊢
        obtain ⟨hz0, hz1, hz2, hzk⟩ := HX4.out.f; refine tas_ 0 (some 91) #[true, false, false, false, false] rfl rfl HT_.out HW_.out hHeld ?_
        refine tas_ 1 (some 92) #[true, true, false, false, false] rfl rfl HT_.out HW_.out hHeld ?_
        have hc0 := HX4.out.c0; have hc1 := HX4.out.c1; have hc2 := HX4.out.c2; have HX6 := am_ (((HX4.out.setv0 0).setv1 0).setv2 nm); refine one_ (i := 2) (N := none) #[true, true, true, false, false] rfl rfl (one_of HT_.out (by kernel_rfl)) (by decide) (fun K hK => ?_)
        refine skip_ (w1 := ?_) (by rfl) rfl ?_ ?_
        rotate_left
        ·go_simp
         rfl
        refine hK.out _ _ ⟨HX6.out.c0, HX6.out.c1, HX6.out.c2, HX6.out.ck⟩ (fun hHeld => ?_)
        clear hK K; refine pus_ 3 (some 5) #[true, true, true, true, false] rfl rfl HT_.out ?_
        refine pus_ 4 (some 6) #[true, true, true, true, true] rfl rfl HT_.out ?_
        refine done_ (done_of HT_.out (by kernel_rfl)) ?_
        go_wp2; (try (rw [Exit.noGoto_ret]; try dsimp only [Exit.inBlock, Exit.then]))
        refine bodyPost_ret (results_ctt rfl _ _ bv 41 #[.int .i64 0, .int .i64 0, .string nm] (0, 0) _ rfl HX6.out.v Tryd.underlying41 rfl (by kernel_rfl)) rfl ?_
        exact ⟨rsl_, HX6.out.b⟩
      have e4q : (nm.toList == ([] : List UInt8)) = false := beq_eq_false_iff_ne.mpr e4; rw [if_neg (fun z => e4 z.2.2), if_pos e3, if_pos e2, if_pos e2] at h; simp only [Option.some.injEq, Prod.mk.injEq] at h; obtain ⟨rfl, rfl, rfl, rfl, rfl⟩ := h; go_wp2_with (first | go_step3 | (go_at_call 46; with_reducible refine (value_Integer.calls k _ _ l0 nu r1 r2 r3 _ ?g1 HC.out AI.out).mono ?_; (case g1 => exact St.C (stn_ : St w _ bl bv bk A0 c0 l0.length _ _ _ _) HR.out); rintro e w9 ⟨rfl, hb⟩; have n0_ := am_ (St.below (stn_ : St w _ bl bv bk A0 c0 l0.length _ _ _ _) hb); clear HX; have HX := n0_; clear n0_ hb; have hcl := HX.out.cl; have hc0 := HX.out.c0; have hc1 := HX.out.c1; have hc2 := HX.out.c2; have hck := HX.out.ck; obtain ⟨hz0, hz1, hz2, hzk⟩ := HX.out.f; obtain ⟨hn0, hn1, hn2, hn3, hn4, hn5⟩ := HX.out.ne))
      refine at_ (fun w4 hw4 => ?_)
      have HX4 : Aside0 (St w w4.drew bl bv bk A0 c0 l0.length 4 1 nm kk) := ⟨St.drew (by rw [hw4]; exact stn_)⟩
      clear hw4 HX hcl hc0 hc1 hc2 hck hz0 hz1 hz2 hzk; refine start_ (n := 5) (S := (fun w' => w'.cell? ⟨bv, 0, none⟩ = some (.int .i64 4) ∧ w'.cell? ⟨bv, 1, none⟩ = some (.int .i64 1) ∧ w'.cell? ⟨bv, 2, none⟩ = some (.string nm) ∧ w'.cell? ⟨bk, 0, none⟩ = some (.int .i64 kk))) (ds := []) #[false, false, false, false, false] (by kernel_rfl) rfl rfl ⟨HX4.out.c0, HX4.out.c1, HX4.out.c2, HX4.out.ck⟩ (fun hHeld => ?_)
      refine with_tabW Read.tab27 Read.bits27 (fun HT_ HW_ => ?_)
      generalize w4.drew = w5 at HX4 hHeld ⊢
      obtain ⟨hz0, hz1, hz2, hzk⟩ := HX4.out.f; refine tas_ 0 (some 100) #[true, false, false, false, false] rfl rfl HT_.out HW_.out hHeld ?_
      refine tas_ 1 (some 101) #[true, true, false, false, false] rfl rfl HT_.out HW_.out hHeld ?_
      have hc0 := HX4.out.c0; have hc1 := HX4.out.c1; have hc2 := HX4.out.c2; have HX6 := am_ (((HX4.out.setv0 4).setv1 1).setv2 nm); refine one_ (i := 2) (N := none) #[true, true, true, false, false] rfl rfl (one_of HT_.out (by kernel_rfl)) (by decide) (fun K hK => ?_)
      refine skip_ (w1 := ?_) (by rfl) rfl ?_ ?_
      rotate_left
      ·go_simp
       rfl
      refine hK.out _ _ ⟨HX6.out.c0, HX6.out.c1, HX6.out.c2, HX6.out.ck⟩ (fun hHeld => ?_)
      clear hK K; refine pus_ 3 (some 5) #[true, true, true, true, false] rfl rfl HT_.out ?_
      refine pus_ 4 (some 6) #[true, true, true, true, true] rfl rfl HT_.out ?_
      refine done_ (done_of HT_.out (by kernel_rfl)) ?_
      go_wp2; (try (rw [Exit.noGoto_ret]; try dsimp only [Exit.inBlock, Exit.then]))
      refine bodyPost_ret (results_ctt rfl _ _ bv 41 #[.int .i64 4, .int .i64 1, .string nm] (0, 0) _ rfl HX6.out.v Tryd.underlying41 rfl (by kernel_rfl)) rfl ?_
      exact ⟨rsl_, HX6.out.b⟩
    have e3q : decide (nu < 0) = false := df_ e3; rw [if_neg (fun z => e3 z.2.1), if_neg e3] at h; replace h := bs_ h; obtain ⟨⟨r1, r2, r3⟩, hI, h⟩ := h; have AI := am_ hI; clear hI; dsimp only at h; have e2r : decide (sp < 0) = false := df_ (by omega); by_cases e5 : r3 ≠ 0
    · have e5q : (r3 != 0) = true := bne_iff_ne.2 e5
      rw [if_pos (Or.inl e5)] at h; simp only [Option.some.injEq, Prod.mk.injEq] at h; obtain ⟨rfl, rfl, rfl, rfl, rfl⟩ := h; go_wp2_with (first | go_step3 | (go_at_call 46; with_reducible refine (value_Integer.calls k _ _ l0 nu r1 r2 r3 _ ?g1 HC.out AI.out).mono ?_; (case g1 => exact St.C (stn_ : St w _ bl bv bk A0 c0 l0.length _ _ _ _) HR.out); rintro e w9 ⟨rfl, hb⟩; have n0_ := am_ (St.below (stn_ : St w _ bl bv bk A0 c0 l0.length _ _ _ _) hb); clear HX; have HX := n0_; clear n0_ hb; have hcl := HX.out.cl; have hc0 := HX.out.c0; have hc1 := HX.out.c1; have hc2 := HX.out.c2; have hck := HX.out.ck; obtain ⟨hz0, hz1, hz2, hzk⟩ := HX.out.f; obtain ⟨hn0, hn1, hn2, hn3, hn4, hn5⟩ := HX.out.ne))
      (try (rw [Exit.noGoto_ret]; try dsimp only [Exit.inBlock, Exit.then]))
      refine bodyPost_ret (results_ctt rfl _ _ bv 41 #[.int .i64 0, .int .i64 0, .string (⟨#[]⟩ : ByteArray)] (0, 0) _ rfl ((stn_ : St w _ bl bv bk A0 c0 l0.length 0 0 (⟨#[]⟩ : ByteArray) _)).v Tryd.underlying41 rfl (by kernel_rfl)) rfl ?_
      exact ⟨rsl_, ((stn_ : St w _ bl bv bk A0 c0 l0.length 0 0 (⟨#[]⟩ : ByteArray) _)).b⟩
    have e5q : (r3 != 0) = false := by rw [bne_eq_false_iff_eq]; omega
    by_cases e6 : r1 > 10000
    · have e6q : decide (10000 < r1) = true := dt_ e6
      rw [if_pos (Or.inr (Or.inl e6))] at h; simp only [Option.some.injEq, Prod.mk.injEq] at h; obtain ⟨rfl, rfl, rfl, rfl, rfl⟩ := h; go_wp2_with (first | go_step3 | (go_at_call 46; with_reducible refine (value_Integer.calls k _ _ l0 nu r1 r2 r3 _ ?g1 HC.out AI.out).mono ?_; (case g1 => exact St.C (stn_ : St w _ bl bv bk A0 c0 l0.length _ _ _ _) HR.out); rintro e w9 ⟨rfl, hb⟩; have n0_ := am_ (St.below (stn_ : St w _ bl bv bk A0 c0 l0.length _ _ _ _) hb); clear HX; have HX := n0_; clear n0_ hb; have hcl := HX.out.cl; have hc0 := HX.out.c0; have hc1 := HX.out.c1; have hc2 := HX.out.c2; have hck := HX.out.ck; obtain ⟨hz0, hz1, hz2, hzk⟩ := HX.out.f; obtain ⟨hn0, hn1, hn2, hn3, hn4, hn5⟩ := HX.out.ne))
      (try (rw [Exit.noGoto_ret]; try dsimp only [Exit.inBlock, Exit.then]))
      refine bodyPost_ret (results_ctt rfl _ _ bv 41 #[.int .i64 0, .int .i64 0, .string (⟨#[]⟩ : ByteArray)] (0, 0) _ rfl ((stn_ : St w _ bl bv bk A0 c0 l0.length 0 0 (⟨#[]⟩ : ByteArray) _)).v Tryd.underlying41 rfl (by kernel_rfl)) rfl ?_
      exact ⟨rsl_, ((stn_ : St w _ bl bv bk A0 c0 l0.length 0 0 (⟨#[]⟩ : ByteArray) _)).b⟩
    have e6q : decide (10000 < r1) = false := df_ e6; by_cases e7 : r1 < -10000
    · have e7q : decide (r1 < -10000) = true := dt_ e7
      rw [if_pos (Or.inr (Or.inr e7))] at h; simp only [Option.some.injEq, Prod.mk.injEq] at h; obtain ⟨rfl, rfl, rfl, rfl, rfl⟩ := h; go_wp2_with (first | go_step3 | (go_at_call 46; with_reducible refine (value_Integer.calls k _ _ l0 nu r1 r2 r3 _ ?g1 HC.out AI.out).mono ?_; (case g1 => exact St.C (stn_ : St w _ bl bv bk A0 c0 l0.length _ _ _ _) HR.out); rintro e w9 ⟨rfl, hb⟩; have n0_ := am_ (St.below (stn_ : St w _ bl bv bk A0 c0 l0.length _ _ _ _) hb); clear HX; have HX := n0_; clear n0_ hb; have hcl := HX.out.cl; have hc0 := HX.out.c0; have hc1 := HX.out.c1; have hc2 := HX.out.c2; have hck := HX.out.ck; obtain ⟨hz0, hz1, hz2, hzk⟩ := HX.out.f; obtain ⟨hn0, hn1, hn2, hn3, hn4, hn5⟩ := HX.out.ne))
      (try (rw [Exit.noGoto_ret]; try dsimp only [Exit.inBlock, Exit.then]))
      refine bodyPost_ret (results_ctt rfl _ _ bv 41 #[.int .i64 0, .int .i64 0, .string (⟨#[]⟩ : ByteArray)] (0, 0) _ rfl ((stn_ : St w _ bl bv bk A0 c0 l0.length 0 0 (⟨#[]⟩ : ByteArray) _)).v Tryd.underlying41 rfl (by kernel_rfl)) rfl ?_
      exact ⟨rsl_, ((stn_ : St w _ bl bv bk A0 c0 l0.length 0 0 (⟨#[]⟩ : ByteArray) _)).b⟩
    have e7q : decide (r1 < -10000) = false := df_ e7; rw [if_neg (by omega)] at h; by_cases e8 : r1 = 0
    · have e8q : (r1 == 0) = true := beq_iff_eq.2 e8
      rw [if_pos (Or.inl e8)] at h; simp only [Option.some.injEq, Prod.mk.injEq] at h; obtain ⟨rfl, rfl, rfl, rfl, rfl⟩ := h; go_wp2_with (first | go_step3 | (go_at_call 46; with_reducible refine (value_Integer.calls k _ _ l0 nu r1 r2 r3 _ ?g1 HC.out AI.out).mono ?_; (case g1 => exact St.C (stn_ : St w _ bl bv bk A0 c0 l0.length _ _ _ _) HR.out); rintro e w9 ⟨rfl, hb⟩; have n0_ := am_ (St.below (stn_ : St w _ bl bv bk A0 c0 l0.length _ _ _ _) hb); clear HX; have HX := n0_; clear n0_ hb; have hcl := HX.out.cl; have hc0 := HX.out.c0; have hc1 := HX.out.c1; have hc2 := HX.out.c2; have hck := HX.out.ck; obtain ⟨hz0, hz1, hz2, hzk⟩ := HX.out.f; obtain ⟨hn0, hn1, hn2, hn3, hn4, hn5⟩ := HX.out.ne))
      (try (rw [Exit.noGoto_ret]; try dsimp only [Exit.inBlock, Exit.then]))
      refine bodyPost_ret (results_ctt rfl _ _ bv 41 #[.int .i64 0, .int .i64 0, .string (⟨#[]⟩ : ByteArray)] (0, 0) _ rfl ((stn_ : St w _ bl bv bk A0 c0 l0.length 0 0 (⟨#[]⟩ : ByteArray) _)).v Tryd.underlying41 rfl (by kernel_rfl)) rfl ?_
      exact ⟨rsl_, ((stn_ : St w _ bl bv bk A0 c0 l0.length 0 0 (⟨#[]⟩ : ByteArray) _)).b⟩
    have e8q : (r1 == 0) = false := beq_eq_false_iff_ne.2 e8; by_cases e9 : r1 < 0
    · have e9q : decide (r1 < 0) = true := dt_ e9
      rw [if_pos (Or.inr ⟨e9, e2⟩)] at h; simp only [Option.some.injEq, Prod.mk.injEq] at h; obtain ⟨rfl, rfl, rfl, rfl, rfl⟩ := h; go_wp2_with (first | go_step3 | (go_at_call 46; with_reducible refine (value_Integer.calls k _ _ l0 nu r1 r2 r3 _ ?g1 HC.out AI.out).mono ?_; (case g1 => exact St.C (stn_ : St w _ bl bv bk A0 c0 l0.length _ _ _ _) HR.out); rintro e w9 ⟨rfl, hb⟩; have n0_ := am_ (St.below (stn_ : St w _ bl bv bk A0 c0 l0.length _ _ _ _) hb); clear HX; have HX := n0_; clear n0_ hb; have hcl := HX.out.cl; have hc0 := HX.out.c0; have hc1 := HX.out.c1; have hc2 := HX.out.c2; have hck := HX.out.ck; obtain ⟨hz0, hz1, hz2, hzk⟩ := HX.out.f; obtain ⟨hn0, hn1, hn2, hn3, hn4, hn5⟩ := HX.out.ne))
      (try (rw [Exit.noGoto_ret]; try dsimp only [Exit.inBlock, Exit.then]))
      refine bodyPost_ret (results_ctt rfl _ _ bv 41 #[.int .i64 0, .int .i64 0, .string (⟨#[]⟩ : ByteArray)] (0, 0) _ rfl ((stn_ : St w _ bl bv bk A0 c0 l0.length 0 0 (⟨#[]⟩ : ByteArray) _)).v Tryd.underlying41 rfl (by kernel_rfl)) rfl ?_
      exact ⟨rsl_, ((stn_ : St w _ bl bv bk A0 c0 l0.length 0 0 (⟨#[]⟩ : ByteArray) _)).b⟩
    have e9q : decide (r1 < 0) = false := df_ e9; rw [if_neg (by omega), if_neg (by omega)] at h; simp only [Option.some.injEq, Prod.mk.injEq] at h; obtain ⟨rfl, rfl, rfl, rfl, rfl⟩ := h; go_wp2_with (first | go_step3 | (go_at_call 46; with_reducible refine (value_Integer.calls k _ _ l0 nu r1 r2 r3 _ ?g1 HC.out AI.out).mono ?_; (case g1 => exact St.C (stn_ : St w _ bl bv bk A0 c0 l0.length _ _ _ _) HR.out); rintro e w9 ⟨rfl, hb⟩; have n0_ := am_ (St.below (stn_ : St w _ bl bv bk A0 c0 l0.length _ _ _ _) hb); clear HX; have HX := n0_; clear n0_ hb; have hcl := HX.out.cl; have hc0 := HX.out.c0; have hc1 := HX.out.c1; have hc2 := HX.out.c2; have hck := HX.out.ck; obtain ⟨hz0, hz1, hz2, hzk⟩ := HX.out.f; obtain ⟨hn0, hn1, hn2, hn3, hn4, hn5⟩ := HX.out.ne))
    refine at_ (fun w4 hw4 => ?_)
    have HX4 : Aside0 (St w w4.drew bl bv bk A0 c0 l0.length 4 r1 nm kk) := ⟨St.drew (by rw [hw4]; exact stn_)⟩
    clear hw4 HX hcl hc0 hc1 hc2 hck hz0 hz1 hz2 hzk; refine start_ (n := 5) (S := (fun w' => w'.cell? ⟨bv, 0, none⟩ = some (.int .i64 4) ∧ w'.cell? ⟨bv, 1, none⟩ = some (.int .i64 r1) ∧ w'.cell? ⟨bv, 2, none⟩ = some (.string nm) ∧ w'.cell? ⟨bk, 0, none⟩ = some (.int .i64 kk))) (ds := []) #[false, false, false, false, false] (by kernel_rfl) rfl rfl ⟨HX4.out.c0, HX4.out.c1, HX4.out.c2, HX4.out.ck⟩ (fun hHeld => ?_)
    refine with_tabW Read.tab36 Read.bits36 (fun HT_ HW_ => ?_)
    generalize w4.drew = w5 at HX4 hHeld ⊢
    obtain ⟨hz0, hz1, hz2, hzk⟩ := HX4.out.f; refine tas_ 0 (some 140) #[true, false, false, false, false] rfl rfl HT_.out HW_.out hHeld ?_
    refine tas_ 1 (some 141) #[true, true, false, false, false] rfl rfl HT_.out HW_.out hHeld ?_
    have hc0 := HX4.out.c0; have hc1 := HX4.out.c1; have hc2 := HX4.out.c2; have HX6 := am_ (((HX4.out.setv0 4).setv1 r1).setv2 nm); refine one_ (i := 2) (N := none) #[true, true, true, false, false] rfl rfl (one_of HT_.out (by kernel_rfl)) (by decide) (fun K hK => ?_)
    refine skip_ (w1 := ?_) (by rfl) rfl ?_ ?_
    rotate_left
    ·go_simp
     rfl
    refine hK.out _ _ ⟨HX6.out.c0, HX6.out.c1, HX6.out.c2, HX6.out.ck⟩ (fun hHeld => ?_)
    clear hK K; refine pus_ 3 (some 5) #[true, true, true, true, false] rfl rfl HT_.out ?_
    refine pus_ 4 (some 6) #[true, true, true, true, true] rfl rfl HT_.out ?_
    refine done_ (done_of HT_.out (by kernel_rfl)) ?_
    go_wp2; (try (rw [Exit.noGoto_ret]; try dsimp only [Exit.inBlock, Exit.then]))
    refine bodyPost_ret (results_ctt rfl _ _ bv 41 #[.int .i64 4, .int .i64 r1, .string nm] (0, 0) _ rfl HX6.out.v Tryd.underlying41 rfl (by kernel_rfl)) rfl ?_
    exact ⟨rsl_, HX6.out.b⟩
  have e2q : decide (0 ≤ sp) = false := df_ e2; by_cases e3 : nu < 0
  · have e3q : decide (nu < 0) = true := dt_ e3
    rw [if_neg (fun z => e2 z.1), if_pos e3, if_neg e2, if_neg e2] at h; simp only [Option.some.injEq, Prod.mk.injEq] at h; obtain ⟨rfl, rfl, rfl, rfl, rfl⟩ := h; go_wp2_with (first | go_step3 | (go_at_call 46; with_reducible refine (value_Integer.calls k _ _ l0 nu r1 r2 r3 _ ?g1 HC.out AI.out).mono ?_; (case g1 => exact St.C (stn_ : St w _ bl bv bk A0 c0 l0.length _ _ _ _) HR.out); rintro e w9 ⟨rfl, hb⟩; have n0_ := am_ (St.below (stn_ : St w _ bl bv bk A0 c0 l0.length _ _ _ _) hb); clear HX; have HX := n0_; clear n0_ hb; have hcl := HX.out.cl; have hc0 := HX.out.c0; have hc1 := HX.out.c1; have hc2 := HX.out.c2; have hck := HX.out.ck; obtain ⟨hz0, hz1, hz2, hzk⟩ := HX.out.f; obtain ⟨hn0, hn1, hn2, hn3, hn4, hn5⟩ := HX.out.ne))
    refine at_ (fun w4 hw4 => ?_)
    have HX4 : Aside0 (St w w4.drew bl bv bk A0 c0 l0.length 3 0 nm kk) := ⟨St.drew (by rw [hw4]; exact stn_)⟩
    clear hw4 HX hcl hc0 hc1 hc2 hck hz0 hz1 hz2 hzk; refine start_ (n := 5) (S := (fun w' => w'.cell? ⟨bv, 0, none⟩ = some (.int .i64 3) ∧ w'.cell? ⟨bv, 1, none⟩ = some (.int .i64 0) ∧ w'.cell? ⟨bv, 2, none⟩ = some (.string nm) ∧ w'.cell? ⟨bk, 0, none⟩ = some (.int .i64 kk))) (ds := []) #[false, false, false, false, false] (by kernel_rfl) rfl rfl ⟨HX4.out.c0, HX4.out.c1, HX4.out.c2, HX4.out.ck⟩ (fun hHeld => ?_)
    refine with_tabW Read.tab27 Read.bits27 (fun HT_ HW_ => ?_)
    generalize w4.drew = w5 at HX4 hHeld ⊢
    obtain ⟨hz0, hz1, hz2, hzk⟩ := HX4.out.f; refine tas_ 0 (some 100) #[true, false, false, false, false] rfl rfl HT_.out HW_.out hHeld ?_
    refine tas_ 1 (some 101) #[true, true, false, false, false] rfl rfl HT_.out HW_.out hHeld ?_
    have hc0 := HX4.out.c0; have hc1 := HX4.out.c1; have hc2 := HX4.out.c2; have HX6 := am_ (((HX4.out.setv0 3).setv1 0).setv2 nm); refine one_ (i := 2) (N := none) #[true, true, true, false, false] rfl rfl (one_of HT_.out (by kernel_rfl)) (by decide) (fun K hK => ?_)
    refine skip_ (w1 := ?_) (by rfl) rfl ?_ ?_
    rotate_left
    ·go_simp
     rfl
    refine hK.out _ _ ⟨HX6.out.c0, HX6.out.c1, HX6.out.c2, HX6.out.ck⟩ (fun hHeld => ?_)
    clear hK K; refine pus_ 3 (some 5) #[true, true, true, true, false] rfl rfl HT_.out ?_
    refine pus_ 4 (some 6) #[true, true, true, true, true] rfl rfl HT_.out ?_
    refine done_ (done_of HT_.out (by kernel_rfl)) ?_
    go_wp2; (try (rw [Exit.noGoto_ret]; try dsimp only [Exit.inBlock, Exit.then]))
    refine bodyPost_ret (results_ctt rfl _ _ bv 41 #[.int .i64 3, .int .i64 0, .string nm] (0, 0) _ rfl HX6.out.v Tryd.underlying41 rfl (by kernel_rfl)) rfl ?_
    exact ⟨rsl_, HX6.out.b⟩
  have e3q : decide (nu < 0) = false := df_ e3; rw [if_neg (fun z => e2 z.1), if_neg e3] at h; replace h := bs_ h; obtain ⟨⟨r1, r2, r3⟩, hI, h⟩ := h; have AI := am_ hI; clear hI; dsimp only at h; have e2r : decide (sp < 0) = true := dt_ (by omega); by_cases e5 : r3 ≠ 0
  · have e5q : (r3 != 0) = true := bne_iff_ne.2 e5
    rw [if_pos (Or.inl e5)] at h; simp only [Option.some.injEq, Prod.mk.injEq] at h; obtain ⟨rfl, rfl, rfl, rfl, rfl⟩ := h; go_wp2_with (first | go_step3 | (go_at_call 46; with_reducible refine (value_Integer.calls k _ _ l0 nu r1 r2 r3 _ ?g1 HC.out AI.out).mono ?_; (case g1 => exact St.C (stn_ : St w _ bl bv bk A0 c0 l0.length _ _ _ _) HR.out); rintro e w9 ⟨rfl, hb⟩; have n0_ := am_ (St.below (stn_ : St w _ bl bv bk A0 c0 l0.length _ _ _ _) hb); clear HX; have HX := n0_; clear n0_ hb; have hcl := HX.out.cl; have hc0 := HX.out.c0; have hc1 := HX.out.c1; have hc2 := HX.out.c2; have hck := HX.out.ck; obtain ⟨hz0, hz1, hz2, hzk⟩ := HX.out.f; obtain ⟨hn0, hn1, hn2, hn3, hn4, hn5⟩ := HX.out.ne))
    (try (rw [Exit.noGoto_ret]; try dsimp only [Exit.inBlock, Exit.then]))
    refine bodyPost_ret (results_ctt rfl _ _ bv 41 #[.int .i64 0, .int .i64 0, .string (⟨#[]⟩ : ByteArray)] (0, 0) _ rfl ((stn_ : St w _ bl bv bk A0 c0 l0.length 0 0 (⟨#[]⟩ : ByteArray) _)).v Tryd.underlying41 rfl (by kernel_rfl)) rfl ?_
    exact ⟨rsl_, ((stn_ : St w _ bl bv bk A0 c0 l0.length 0 0 (⟨#[]⟩ : ByteArray) _)).b⟩
  have e5q : (r3 != 0) = false := by rw [bne_eq_false_iff_eq]; omega
  by_cases e6 : r1 > 10000
  · have e6q : decide (10000 < r1) = true := dt_ e6
    rw [if_pos (Or.inr (Or.inl e6))] at h; simp only [Option.some.injEq, Prod.mk.injEq] at h; obtain ⟨rfl, rfl, rfl, rfl, rfl⟩ := h; go_wp2_with (first | go_step3 | (go_at_call 46; with_reducible refine (value_Integer.calls k _ _ l0 nu r1 r2 r3 _ ?g1 HC.out AI.out).mono ?_; (case g1 => exact St.C (stn_ : St w _ bl bv bk A0 c0 l0.length _ _ _ _) HR.out); rintro e w9 ⟨rfl, hb⟩; have n0_ := am_ (St.below (stn_ : St w _ bl bv bk A0 c0 l0.length _ _ _ _) hb); clear HX; have HX := n0_; clear n0_ hb; have hcl := HX.out.cl; have hc0 := HX.out.c0; have hc1 := HX.out.c1; have hc2 := HX.out.c2; have hck := HX.out.ck; obtain ⟨hz0, hz1, hz2, hzk⟩ := HX.out.f; obtain ⟨hn0, hn1, hn2, hn3, hn4, hn5⟩ := HX.out.ne))
    (try (rw [Exit.noGoto_ret]; try dsimp only [Exit.inBlock, Exit.then]))
    refine bodyPost_ret (results_ctt rfl _ _ bv 41 #[.int .i64 0, .int .i64 0, .string (⟨#[]⟩ : ByteArray)] (0, 0) _ rfl ((stn_ : St w _ bl bv bk A0 c0 l0.length 0 0 (⟨#[]⟩ : ByteArray) _)).v Tryd.underlying41 rfl (by kernel_rfl)) rfl ?_
    exact ⟨rsl_, ((stn_ : St w _ bl bv bk A0 c0 l0.length 0 0 (⟨#[]⟩ : ByteArray) _)).b⟩
  have e6q : decide (10000 < r1) = false := df_ e6; by_cases e7 : r1 < -10000
  · have e7q : decide (r1 < -10000) = true := dt_ e7
    rw [if_pos (Or.inr (Or.inr e7))] at h; simp only [Option.some.injEq, Prod.mk.injEq] at h; obtain ⟨rfl, rfl, rfl, rfl, rfl⟩ := h; go_wp2_with (first | go_step3 | (go_at_call 46; with_reducible refine (value_Integer.calls k _ _ l0 nu r1 r2 r3 _ ?g1 HC.out AI.out).mono ?_; (case g1 => exact St.C (stn_ : St w _ bl bv bk A0 c0 l0.length _ _ _ _) HR.out); rintro e w9 ⟨rfl, hb⟩; have n0_ := am_ (St.below (stn_ : St w _ bl bv bk A0 c0 l0.length _ _ _ _) hb); clear HX; have HX := n0_; clear n0_ hb; have hcl := HX.out.cl; have hc0 := HX.out.c0; have hc1 := HX.out.c1; have hc2 := HX.out.c2; have hck := HX.out.ck; obtain ⟨hz0, hz1, hz2, hzk⟩ := HX.out.f; obtain ⟨hn0, hn1, hn2, hn3, hn4, hn5⟩ := HX.out.ne))
    (try (rw [Exit.noGoto_ret]; try dsimp only [Exit.inBlock, Exit.then]))
    refine bodyPost_ret (results_ctt rfl _ _ bv 41 #[.int .i64 0, .int .i64 0, .string (⟨#[]⟩ : ByteArray)] (0, 0) _ rfl ((stn_ : St w _ bl bv bk A0 c0 l0.length 0 0 (⟨#[]⟩ : ByteArray) _)).v Tryd.underlying41 rfl (by kernel_rfl)) rfl ?_
    exact ⟨rsl_, ((stn_ : St w _ bl bv bk A0 c0 l0.length 0 0 (⟨#[]⟩ : ByteArray) _)).b⟩
  have e7q : decide (r1 < -10000) = false := df_ e7; rw [if_neg (by omega)] at h; by_cases e8 : r1 = 0
  · have e8q : (r1 == 0) = true := beq_iff_eq.2 e8
    rw [if_pos (Or.inl e8)] at h; simp only [Option.some.injEq, Prod.mk.injEq] at h; obtain ⟨rfl, rfl, rfl, rfl, rfl⟩ := h; go_wp2_with (first | go_step3 | (go_at_call 46; with_reducible refine (value_Integer.calls k _ _ l0 nu r1 r2 r3 _ ?g1 HC.out AI.out).mono ?_; (case g1 => exact St.C (stn_ : St w _ bl bv bk A0 c0 l0.length _ _ _ _) HR.out); rintro e w9 ⟨rfl, hb⟩; have n0_ := am_ (St.below (stn_ : St w _ bl bv bk A0 c0 l0.length _ _ _ _) hb); clear HX; have HX := n0_; clear n0_ hb; have hcl := HX.out.cl; have hc0 := HX.out.c0; have hc1 := HX.out.c1; have hc2 := HX.out.c2; have hck := HX.out.ck; obtain ⟨hz0, hz1, hz2, hzk⟩ := HX.out.f; obtain ⟨hn0, hn1, hn2, hn3, hn4, hn5⟩ := HX.out.ne))
    (try (rw [Exit.noGoto_ret]; try dsimp only [Exit.inBlock, Exit.then]))
    refine bodyPost_ret (results_ctt rfl _ _ bv 41 #[.int .i64 0, .int .i64 0, .string (⟨#[]⟩ : ByteArray)] (0, 0) _ rfl ((stn_ : St w _ bl bv bk A0 c0 l0.length 0 0 (⟨#[]⟩ : ByteArray) _)).v Tryd.underlying41 rfl (by kernel_rfl)) rfl ?_
    exact ⟨rsl_, ((stn_ : St w _ bl bv bk A0 c0 l0.length 0 0 (⟨#[]⟩ : ByteArray) _)).b⟩
  have e8q : (r1 == 0) = false := beq_eq_false_iff_ne.2 e8; by_cases e9 : r1 < 0
  · have e9q : decide (r1 < 0) = true := dt_ e9
    rw [if_neg (by omega), if_pos (by omega)] at h; simp only [Option.some.injEq, Prod.mk.injEq] at h; obtain ⟨rfl, rfl, rfl, rfl, rfl⟩ := h; go_wp2_with (first | go_step3 | (go_at_call 46; with_reducible refine (value_Integer.calls k _ _ l0 nu r1 r2 r3 _ ?g1 HC.out AI.out).mono ?_; (case g1 => exact St.C (stn_ : St w _ bl bv bk A0 c0 l0.length _ _ _ _) HR.out); rintro e w9 ⟨rfl, hb⟩; have n0_ := am_ (St.below (stn_ : St w _ bl bv bk A0 c0 l0.length _ _ _ _) hb); clear HX; have HX := n0_; clear n0_ hb; have hcl := HX.out.cl; have hc0 := HX.out.c0; have hc1 := HX.out.c1; have hc2 := HX.out.c2; have hck := HX.out.ck; obtain ⟨hz0, hz1, hz2, hzk⟩ := HX.out.f; obtain ⟨hn0, hn1, hn2, hn3, hn4, hn5⟩ := HX.out.ne))
    refine at_ (fun w4 hw4 => ?_)
    have HX4 : Aside0 (St w w4.drew bl bv bk A0 c0 l0.length 2 r1 nm kk) := ⟨St.drew (by rw [hw4]; exact stn_)⟩
    clear hw4 HX hcl hc0 hc1 hc2 hck hz0 hz1 hz2 hzk; refine start_ (n := 5) (S := (fun w' => w'.cell? ⟨bv, 0, none⟩ = some (.int .i64 2) ∧ w'.cell? ⟨bv, 1, none⟩ = some (.int .i64 r1) ∧ w'.cell? ⟨bv, 2, none⟩ = some (.string nm) ∧ w'.cell? ⟨bk, 0, none⟩ = some (.int .i64 kk))) (ds := []) #[false, false, false, false, false] (by kernel_rfl) rfl rfl ⟨HX4.out.c0, HX4.out.c1, HX4.out.c2, HX4.out.ck⟩ (fun hHeld => ?_)
    refine with_tabW Read.tab36 Read.bits36 (fun HT_ HW_ => ?_)
    generalize w4.drew = w5 at HX4 hHeld ⊢
    obtain ⟨hz0, hz1, hz2, hzk⟩ := HX4.out.f; refine tas_ 0 (some 140) #[true, false, false, false, false] rfl rfl HT_.out HW_.out hHeld ?_
    refine tas_ 1 (some 141) #[true, true, false, false, false] rfl rfl HT_.out HW_.out hHeld ?_
    have hc0 := HX4.out.c0; have hc1 := HX4.out.c1; have hc2 := HX4.out.c2; have HX6 := am_ (((HX4.out.setv0 2).setv1 r1).setv2 nm); refine one_ (i := 2) (N := none) #[true, true, true, false, false] rfl rfl (one_of HT_.out (by kernel_rfl)) (by decide) (fun K hK => ?_)
    refine skip_ (w1 := ?_) (by rfl) rfl ?_ ?_
    rotate_left
    ·go_simp
     rfl
    refine hK.out _ _ ⟨HX6.out.c0, HX6.out.c1, HX6.out.c2, HX6.out.ck⟩ (fun hHeld => ?_)
    clear hK K; refine pus_ 3 (some 5) #[true, true, true, true, false] rfl rfl HT_.out ?_
    refine pus_ 4 (some 6) #[true, true, true, true, true] rfl rfl HT_.out ?_
    refine done_ (done_of HT_.out (by kernel_rfl)) ?_
    go_wp2; (try (rw [Exit.noGoto_ret]; try dsimp only [Exit.inBlock, Exit.then]))
    refine bodyPost_ret (results_ctt rfl _ _ bv 41 #[.int .i64 2, .int .i64 r1, .string nm] (0, 0) _ rfl HX6.out.v Tryd.underlying41 rfl (by kernel_rfl)) rfl ?_
    exact ⟨rsl_, HX6.out.b⟩
  have e9q : decide (r1 < 0) = false := df_ e9; rw [if_neg (by omega), if_pos (by omega)] at h; simp only [Option.some.injEq, Prod.mk.injEq] at h; obtain ⟨rfl, rfl, rfl, rfl, rfl⟩ := h; go_wp2_with (first | go_step3 | (go_at_call 46; with_reducible refine (value_Integer.calls k _ _ l0 nu r1 r2 r3 _ ?g1 HC.out AI.out).mono ?_; (case g1 => exact St.C (stn_ : St w _ bl bv bk A0 c0 l0.length _ _ _ _) HR.out); rintro e w9 ⟨rfl, hb⟩; have n0_ := am_ (St.below (stn_ : St w _ bl bv bk A0 c0 l0.length _ _ _ _) hb); clear HX; have HX := n0_; clear n0_ hb; have hcl := HX.out.cl; have hc0 := HX.out.c0; have hc1 := HX.out.c1; have hc2 := HX.out.c2; have hck := HX.out.ck; obtain ⟨hz0, hz1, hz2, hzk⟩ := HX.out.f; obtain ⟨hn0, hn1, hn2, hn3, hn4, hn5⟩ := HX.out.ne))
  refine at_ (fun w4 hw4 => ?_)
  have HX4 : Aside0 (St w w4.drew bl bv bk A0 c0 l0.length 2 r1 nm kk) := ⟨St.drew (by rw [hw4]; exact stn_)⟩
  clear hw4 HX hcl hc0 hc1 hc2 hck hz0 hz1 hz2 hzk; refine start_ (n := 5) (S := (fun w' => w'.cell? ⟨bv, 0, none⟩ = some (.int .i64 2) ∧ w'.cell? ⟨bv, 1, none⟩ = some (.int .i64 r1) ∧ w'.cell? ⟨bv, 2, none⟩ = some (.string nm) ∧ w'.cell? ⟨bk, 0, none⟩ = some (.int .i64 kk))) (ds := []) #[false, false, false, false, false] (by kernel_rfl) rfl rfl ⟨HX4.out.c0, HX4.out.c1, HX4.out.c2, HX4.out.ck⟩ (fun hHeld => ?_)
  refine with_tabW Read.tab36 Read.bits36 (fun HT_ HW_ => ?_)
  generalize w4.drew = w5 at HX4 hHeld ⊢
  obtain ⟨hz0, hz1, hz2, hzk⟩ := HX4.out.f; refine tas_ 0 (some 140) #[true, false, false, false, false] rfl rfl HT_.out HW_.out hHeld ?_
  refine tas_ 1 (some 141) #[true, true, false, false, false] rfl rfl HT_.out HW_.out hHeld ?_
  have hc0 := HX4.out.c0; have hc1 := HX4.out.c1; have hc2 := HX4.out.c2; have HX6 := am_ (((HX4.out.setv0 2).setv1 r1).setv2 nm); refine one_ (i := 2) (N := none) #[true, true, true, false, false] rfl rfl (one_of HT_.out (by kernel_rfl)) (by decide) (fun K hK => ?_)
  refine skip_ (w1 := ?_) (by rfl) rfl ?_ ?_
  rotate_left
  ·go_simp
   rfl
  refine hK.out _ _ ⟨HX6.out.c0, HX6.out.c1, HX6.out.c2, HX6.out.ck⟩ (fun hHeld => ?_)
  clear hK K; refine pus_ 3 (some 5) #[true, true, true, true, false] rfl rfl HT_.out ?_
  refine pus_ 4 (some 6) #[true, true, true, true, true] rfl rfl HT_.out ?_
  refine done_ (done_of HT_.out (by kernel_rfl)) ?_
  go_wp2; (try (rw [Exit.noGoto_ret]; try dsimp only [Exit.inBlock, Exit.then]))
  refine bodyPost_ret (results_ctt rfl _ _ bv 41 #[.int .i64 2, .int .i64 r1, .string nm] (0, 0) _ rfl HX6.out.v Tryd.underlying41 rfl (by kernel_rfl)) rfl ?_
  exact ⟨rsl_, HX6.out.b⟩
end line_Read
end Go.Proofs.YtofdhdafabmhmaaDoor.Giv
end
section
namespace Go.Proofs.YtofdhdafabmhmaaDoor.PLf4
open Go.RowKit Go.Proofs.YtofdhdafabmhmaaDoorW.PrintWords Go.Proofs.YtofdhdafabmhmaaDoorW.PrintLast Go.Proofs.YtofdhdafabmhmaaDoorW.PrintMore
attribute [local go_sem] max2_int min2_int max_two min_two max_three min_three max_four min_four
open Go.Proofs.YtofdhdafabmhmaaDoor.Opn Go.Proofs.YtofdhdafabmhmaaDoor.Giv
set_option maxRecDepth 100000

/-! ### line_lines: function 49 -/
def line_lines.l0 : Nat → List (S67) → Int → List (S41) → Int → Option ((List (S41)) × Int × Int)
 | 0, _, _, _, _ => none
 | k + 1, x0, x2, x6, x7 => (line_Read.f k x0 x7).bind fun bt241 => (if bt241.2.2.2.2 = 0 then (if x6.length < 4398046511104 then ((some (x6 ++ [(⟨bt241.1, bt241.2.1, bt241.2.2.1⟩ : S41)] : List (S41))).bind fun y246 => (if (y246.length : Int) = x2 then (some (y246, bt241.2.2.2.1, 0)) else ((value_Sign.f x0 bt241.2.2.2.1 (⟨#[47]⟩ : ByteArray)).bind fun t249 => (if t249 = true then (line_lines.l0 k x0 x2 y246 (wrap64 (bt241.2.2.2.1 + 1))) else (some (y246, bt241.2.2.2.1, 0)))))) else (none)) else (some (([] : List (S41)), bt241.2.2.2.1, bt241.2.2.2.2)))
def line_lines.f (k : Nat) (l0 : List (S67)) (a1 : Int) (a2 : Int) : Option ((List (S41)) × Int × Int) := line_lines.l0 k l0 a2 ([] : List (S41)) a1
theorem line_lines.mono_l : ∀ k, (∀ y0 y1 y2 y3, LeO (line_lines.l0 k y0 y1 y2 y3) (line_lines.l0 (k + 1) y0 y1 y2 y3))
 | 0 => fun _ _ _ _ r h => by simp [line_lines.l0] at h
 | k + 1 => by
  have ih0 := line_lines.mono_l k; intro y0 y1 y2 y3; unfold line_lines.l0; repeat' first
  | (with_reducible exact ih0 _ _ _ _)
  | (with_reducible exact line_Read.mono _ _ _)
  | (with_reducible first | exact LeO.refl _ | exact LeO.none _ | refine LeO.ite ?_ ?_ | refine LeO.bind ?_ (fun _ => ?_))
theorem line_lines.mono : ∀ a0 a1 a2 k, LeO (line_lines.f k a0 a1 a2) (line_lines.f (k + 1) a0 a1 a2) := by
 intro a0 a1 a2 k; have ih0 := line_lines.mono_l k; unfold line_lines.f; repeat' first
   | (with_reducible exact ih0 _ _ _ _)
   | (with_reducible exact line_Read.mono _ _ _)
   | (with_reducible first | exact LeO.refl _ | exact LeO.none _ | refine LeO.ite ?_ ?_ | refine LeO.bind ?_ (fun _ => ?_))
set_option maxHeartbeats 8000000 in
theorem line_lines.calls (k : Nat) (A0 : Option Addr) (c0 : Nat) (l0 : List (S67)) (a1 : Int) (a2 : Int) (r1 : List (S41)) (r2 : Int) (r3 : Int) (w : World) (hr0 : Kd.C k67 w A0 l0.length l0) (hc0 : l0.length ≤ c0) (h : line_lines.f k l0 a1 a2 = some (r1, r2, r3)) :
  Calls Tryd.prog 49 #[.slice A0 l0.length c0, .int .i64 a1, .int .i64 a2] w fun e w' => ∃ v0_ : Value, e = .returned (.tuple #[v0_, .int .i64 r2, .int .i64 r3]) ∧ Kd.R k41 41 w' w.heap.size (fun _ => True) v0_ r1 ∧ Below w.heap.size w w' := by
 have hu41 := Tryd.underlying41; have HR0 := am_ hr0; have HC0 := am_ hc0; clear hr0 hc0; have HB := am_ (Below.refl w.heap.size w); have H : (line_lines.l0 k l0 a2 ([] : List (S41)) a1) = some (r1, r2, r3) := h; clear h; have H' := am_ H; clear H; go_enter Tryd.func49, Tryd.ntmps49
 go_wp2; go_loopg [6, 7] k (fun kq v6 v7 w' => ∃ (x6_1 : List (S41)) (x7_1 : Int), v7 = .int .i64 x7_1 ∧ Aside0 (line_lines.l0 kq l0 a2 x6_1 x7_1 = some (r1, r2, r3)) ∧ Aside0 (kq ≤ k) ∧ Aside0 (Kd.R k41 41 w' w.heap.size (fun _ => True) v6 x6_1) ∧ Aside0 (Below w.heap.size w w'))
 case atStart => exact ⟨(([] : List (S41))), (a1), rfs_, H', ⟨Nat.le_refl _⟩, ⟨by first | exact Kd.R_nil _ _ _ _ _ | exact Kd.N_nil _ _ _ _ _ | exact Kd.V_nil _ _ _ _ _ | exact Kd.Q_nil _ _ _ _ _ | exact Kd.S_nil _ _ _ _ _⟩, ⟨bel_⟩⟩
 case round =>
  clear H'; obtain ⟨x6_1, x7_1, rfl, HA, HK1, HO_6, HB⟩ := hrel
  cases gk with
  | zero => exact absurd HA.out (by simp [line_lines.l0])
  | succ k1 =>
   have H := HA.out; clear HA; simp only [line_lines.l0] at H; replace H := bs_ H; obtain ⟨⟨t241, t242, t243, t244, t245⟩, A40, H⟩ := H; try dsimp only at H
   have A4 := am_ A40; clear A40; by_cases c5 : t245 = 0
   ·rw [if_pos c5] at H; have c5b0 : (t245 == 0) = true := beq_iff_eq.mpr c5; have c5b1 : (t245 != 0) = false := bne_eq_false_iff_eq.mpr c5; clear c5; by_cases c6 : x6_1.length < 4398046511104
    ·rw [if_pos c6] at H; have LMc6 := am_ c6; clear c6; obtain ⟨y246, hy246⟩ : ∃ y_ : List (S41), y_ = (x6_1 ++ [(⟨t241, t242, t243⟩ : S41)]) := ⟨_, rfl⟩
     replace H : (if (y246.length : Int) = a2 then (some (y246, t244, 0)) else ((value_Sign.f l0 t244 (⟨#[47]⟩ : ByteArray)).bind fun t249 => (if t249 = true then (line_lines.l0 k1 l0 a2 y246 (wrap64 (t244 + 1))) else (some (y246, t244, 0))))) = some (r1, r2, r3) := by first | (rw [hy246]; with_reducible exact H) | (have H2_ := (Option.bind_some _ _).symm.trans H; rw [hy246]; with_reducible exact H2_) | (have H2_ := (Option.bind_some _ _).symm.trans H; with_reducible exact H2_) | with_reducible exact H | (rw [hy246]; exact H) | exact H
     have Ny246 := am_ hy246; clear hy246; by_cases c7 : (y246.length : Int) = a2
     ·rw [if_pos c7] at H; have c7b0 : ((y246.length : Int) == a2) = true := beq_iff_eq.mpr c7; have c7b1 : ((y246.length : Int) != a2) = false := bne_eq_false_iff_eq.mpr c7; clear c7; simp only [Option.some.injEq, Prod.mk.injEq] at H; obtain ⟨rfl, rfl, rfl⟩ := H; go_wp2_with (first | ((with_reducible refine gate_dst (N := 9) rfl ?_); refine box_event ?hg (N := 9) ?hd (cs := #[.int .i64 0, .int .i64 0, .string (⟨#[]⟩ : ByteArray)]) (t := 41) ?hr ?_; (case hd => rfl); (case hg => rfl); (case hr => first | (go_simp; done) | (go_simp; rfl)); intro gb240 hg w8 hbox hb; have BK240 := am_ (hbox); have GW240 := am_ ((bsz_ hg : w.heap.size ≤ gb240)); have GE240 := am_ ((bsz_ hg : w.heap.size ≤ gb240)); replace HO_6 := am_ (Kd.R_below (Kd.R_elderB (row_ HO_6) gb240 (Nat.le_of_eq hg.symm)) hb); replace HB := am_ (below_step bel_ hb); clear hb hbox hg) | ((with_reducible refine gate_callee (f := 23) rfl ?_); refine goesL_ (some 16) rfl rfl Tryd.func23 (by kernel_rfl) rfl #[.slice A0 l0.length c0, .int .i64 x7_1] rfl goa_ ?_; (with_reducible refine (line_Read.calls k1 _ _ l0 x7_1 t241 t242 t243 t244 t245 _ ?side1 ?side2 A4.out).mono ?_); (case side1 => exact cin_); (case side2 => exact HC0.out); rintro e w9 ⟨rfl, hb⟩; refine ⟨_, rfl, ?_⟩; replace HO_6 := am_ (Kd.R_below (row_ HO_6) hb); replace BK240 := blb_ BK240 hb; replace HB := am_ (below_step bel_ hb); clear hb; obtain ⟨hcz10_0, hcz10_1, hcz10_2⟩ := c3_ BK240; obtain ⟨hfz10_0, hfz10_1, hfz10_2⟩ := f3_ BK240) | ((with_reducible refine gate_builtin (b := .append) (xs := #[.tmp 24, .tmp 26]) rfl ?_); at_builtin; refine Kd.R_append k41 (w0 := w) w.heap.size rfl (.tmp 24) (.tmp 26) 77 41 (.agg #[(.int .i64 0), (.int .i64 0), (.string ⟨#[]⟩)]) 32 rfl Tryd.underlying77 info41 rfl (by decide) (by omega) u6 x6_1 (⟨t241, t242, t243⟩ : S41) [.int .i64 t241, .int .i64 t242, .string t243] (fun k_ => k_ ≠ gb240) (fun _ => False) rfl (by first | (go_simp; done) | (go_simp; rfl)) ?aP (fun _ hk => hk.elim) ?aF ?aO ?aB ?aS ?aL ?_; (case aP => exact k41_mkM _ _ _ (⟨t241, t242, t243⟩ : S41)); (case aB => exact bel_); (case aF => exact (fun k_ hk => Kd.freshB (g := gb240) (o := .cells #[.int .i64 t241, .int .i64 t242, .string t243] 41 (0, 0)) (bch_) k_ hk)); (case aO => exact (by (with_reducible repeat (first | apply Kd.R_alloc | apply Kd.R_drewN | apply Kd.R_drew)); exact Kd.R_mono (Kd.R_far (p := ⟨gb240, 2, none⟩) (Kd.R_far (p := ⟨gb240, 1, none⟩) (Kd.R_far (p := ⟨gb240, 0, none⟩) (Kd.R_mono HO_6.out (fun k_ hk => (⟨hk, hk.2⟩ : _ ∧ k_ ≠ gb240))) (fun _ hk => hk.2) (.int .i64 t241)) (fun _ hk => hk.2) (.int .i64 t242)) (fun _ hk => hk.2) (.string t243)) (fun _ hk => hk.1.2))); (case aS => exact (below_size bel_)); (case aL => have := LMc6.out; omega); intro v247 w11 ho hb hg hat; rw [← Ny246.out] at ho; have n0_ := am_ (blk_grown (g := gb240) (o := .cells #[.int .i64 t241, .int .i64 t242, .string t243] 41 (0, 0)) (bch_) hg (Kd.R_away HO_6.out (fun _ hk => hk.2))); have n1_ := am_ (hb); have n2_ := am_ (ho); clear BK240; clear HB; clear HO_6; have BK240 := n0_; have HB := n1_; have HO248 := n2_; clear n0_ n1_ n2_; clear ho hb hg hat; obtain ⟨Ao12, co12, eo12⟩ := Kd.R_slice HO248.out; subst eo12))
      go_ret3
      exact ⟨_, rsl_, by (with_reducible repeat (first | apply Kd.R_alloc | apply Kd.R_drewN | apply Kd.R_drew)); exact Kd.R_mono HO248.out (fun _ hk => trivial), bel_⟩
     rw [if_neg c7] at H; have c7b0 : ((y246.length : Int) == a2) = false := beq_eq_false_iff_ne.mpr c7; have c7b1 : ((y246.length : Int) != a2) = true := bne_iff_ne.mpr c7; replace H := bs_ H; obtain ⟨t249, A130, H⟩ := H; try dsimp only at H
     have A13 := am_ A130; clear A130; by_cases c14 : t249 = true
     ·subst c14; rw [if_pos rfl] at H; have H' := am_ H; clear H; go_wp2_with (first | ((with_reducible refine gate_dst (N := 9) rfl ?_); refine box_event ?hg (N := 9) ?hd (cs := #[.int .i64 0, .int .i64 0, .string (⟨#[]⟩ : ByteArray)]) (t := 41) ?hr ?_; (case hd => rfl); (case hg => rfl); (case hr => first | (go_simp; done) | (go_simp; rfl)); intro gb240 hg w15 hbox hb; have BK240 := am_ (hbox); have GW240 := am_ ((bsz_ hg : w.heap.size ≤ gb240)); have GE240 := am_ ((bsz_ hg : w.heap.size ≤ gb240)); replace HO_6 := am_ (Kd.R_below (Kd.R_elderB (row_ HO_6) gb240 (Nat.le_of_eq hg.symm)) hb); replace HB := am_ (below_step bel_ hb); clear hb hbox hg) | ((with_reducible refine gate_callee (f := 23) rfl ?_); refine goesL_ (some 16) rfl rfl Tryd.func23 (by kernel_rfl) rfl #[.slice A0 l0.length c0, .int .i64 x7_1] rfl goa_ ?_; (with_reducible refine (line_Read.calls k1 _ _ l0 x7_1 t241 t242 t243 t244 t245 _ ?side1 ?side2 A4.out).mono ?_); (case side1 => exact cin_); (case side2 => exact HC0.out); rintro e w16 ⟨rfl, hb⟩; refine ⟨_, rfl, ?_⟩; replace HO_6 := am_ (Kd.R_below (row_ HO_6) hb); replace BK240 := blb_ BK240 hb; replace HB := am_ (below_step bel_ hb); clear hb; obtain ⟨hcz17_0, hcz17_1, hcz17_2⟩ := c3_ BK240; obtain ⟨hfz17_0, hfz17_1, hfz17_2⟩ := f3_ BK240) | ((with_reducible refine gate_builtin (b := .append) (xs := #[.tmp 24, .tmp 26]) rfl ?_); at_builtin; refine Kd.R_append k41 (w0 := w) w.heap.size rfl (.tmp 24) (.tmp 26) 77 41 (.agg #[(.int .i64 0), (.int .i64 0), (.string ⟨#[]⟩)]) 32 rfl Tryd.underlying77 info41 rfl (by decide) (by omega) u6 x6_1 (⟨t241, t242, t243⟩ : S41) [.int .i64 t241, .int .i64 t242, .string t243] (fun k_ => k_ ≠ gb240) (fun _ => False) rfl (by first | (go_simp; done) | (go_simp; rfl)) ?aP (fun _ hk => hk.elim) ?aF ?aO ?aB ?aS ?aL ?_; (case aP => exact k41_mkM _ _ _ (⟨t241, t242, t243⟩ : S41)); (case aB => exact bel_); (case aF => exact (fun k_ hk => Kd.freshB (g := gb240) (o := .cells #[.int .i64 t241, .int .i64 t242, .string t243] 41 (0, 0)) (bch_) k_ hk)); (case aO => exact (by (with_reducible repeat (first | apply Kd.R_alloc | apply Kd.R_drewN | apply Kd.R_drew)); exact Kd.R_mono (Kd.R_far (p := ⟨gb240, 2, none⟩) (Kd.R_far (p := ⟨gb240, 1, none⟩) (Kd.R_far (p := ⟨gb240, 0, none⟩) (Kd.R_mono HO_6.out (fun k_ hk => (⟨hk, hk.2⟩ : _ ∧ k_ ≠ gb240))) (fun _ hk => hk.2) (.int .i64 t241)) (fun _ hk => hk.2) (.int .i64 t242)) (fun _ hk => hk.2) (.string t243)) (fun _ hk => hk.1.2))); (case aS => exact (below_size bel_)); (case aL => have := LMc6.out; omega); intro v247 w18 ho hb hg hat; rw [← Ny246.out] at ho; have n0_ := am_ (blk_grown (g := gb240) (o := .cells #[.int .i64 t241, .int .i64 t242, .string t243] 41 (0, 0)) (bch_) hg (Kd.R_away HO_6.out (fun _ hk => hk.2))); have n1_ := am_ (hb); have n2_ := am_ (ho); clear BK240; clear HB; clear HO_6; have BK240 := n0_; have HB := n1_; have HO248 := n2_; clear n0_ n1_ n2_; clear ho hb hg hat; obtain ⟨Ao19, co19, eo19⟩ := Kd.R_slice HO248.out; subst eo19) | (go_at_call 78; (with_reducible refine (value_Sign.calls _ _ l0 t244 (⟨#[47]⟩ : ByteArray) true _ ?side1 ?side2 A13.out).mono ?_); (case side1 => exact cin_); (case side2 => exact HC0.out); rintro e w20 ⟨rfl, hb⟩; replace HO248 := am_ (Kd.R_below (row_ HO248) hb); replace BK240 := blb_ BK240 hb; replace HB := am_ (below_step bel_ hb); clear hb))
      go_roundg k1
      case measure => have := HK1.out; omega
      case rel => exact ⟨(y246), (wrap64 (t244 + 1)), rfs_, H', ⟨by have := HK1.out; omega⟩, ⟨by (with_reducible repeat (first | apply Kd.R_alloc | apply Kd.R_drewN | apply Kd.R_drew)); exact Kd.R_mono HO248.out (fun _ hk => trivial)⟩, ⟨bel_⟩⟩
     replace c14 := Bool.eq_false_iff.mpr c14; subst c14; rw [if_neg (show ¬ (false = true) by decide)] at H; simp only [Option.some.injEq, Prod.mk.injEq] at H; obtain ⟨rfl, rfl, rfl⟩ := H; go_wp2_with (first | ((with_reducible refine gate_dst (N := 9) rfl ?_); refine box_event ?hg (N := 9) ?hd (cs := #[.int .i64 0, .int .i64 0, .string (⟨#[]⟩ : ByteArray)]) (t := 41) ?hr ?_; (case hd => rfl); (case hg => rfl); (case hr => first | (go_simp; done) | (go_simp; rfl)); intro gb240 hg w21 hbox hb; have BK240 := am_ (hbox); have GW240 := am_ ((bsz_ hg : w.heap.size ≤ gb240)); have GE240 := am_ ((bsz_ hg : w.heap.size ≤ gb240)); replace HO_6 := am_ (Kd.R_below (Kd.R_elderB (row_ HO_6) gb240 (Nat.le_of_eq hg.symm)) hb); replace HB := am_ (below_step bel_ hb); clear hb hbox hg) | ((with_reducible refine gate_callee (f := 23) rfl ?_); refine goesL_ (some 16) rfl rfl Tryd.func23 (by kernel_rfl) rfl #[.slice A0 l0.length c0, .int .i64 x7_1] rfl goa_ ?_; (with_reducible refine (line_Read.calls k1 _ _ l0 x7_1 t241 t242 t243 t244 t245 _ ?side1 ?side2 A4.out).mono ?_); (case side1 => exact cin_); (case side2 => exact HC0.out); rintro e w22 ⟨rfl, hb⟩; refine ⟨_, rfl, ?_⟩; replace HO_6 := am_ (Kd.R_below (row_ HO_6) hb); replace BK240 := blb_ BK240 hb; replace HB := am_ (below_step bel_ hb); clear hb; obtain ⟨hcz23_0, hcz23_1, hcz23_2⟩ := c3_ BK240; obtain ⟨hfz23_0, hfz23_1, hfz23_2⟩ := f3_ BK240) | ((with_reducible refine gate_builtin (b := .append) (xs := #[.tmp 24, .tmp 26]) rfl ?_); at_builtin; refine Kd.R_append k41 (w0 := w) w.heap.size rfl (.tmp 24) (.tmp 26) 77 41 (.agg #[(.int .i64 0), (.int .i64 0), (.string ⟨#[]⟩)]) 32 rfl Tryd.underlying77 info41 rfl (by decide) (by omega) u6 x6_1 (⟨t241, t242, t243⟩ : S41) [.int .i64 t241, .int .i64 t242, .string t243] (fun k_ => k_ ≠ gb240) (fun _ => False) rfl (by first | (go_simp; done) | (go_simp; rfl)) ?aP (fun _ hk => hk.elim) ?aF ?aO ?aB ?aS ?aL ?_; (case aP => exact k41_mkM _ _ _ (⟨t241, t242, t243⟩ : S41)); (case aB => exact bel_); (case aF => exact (fun k_ hk => Kd.freshB (g := gb240) (o := .cells #[.int .i64 t241, .int .i64 t242, .string t243] 41 (0, 0)) (bch_) k_ hk)); (case aO => exact (by (with_reducible repeat (first | apply Kd.R_alloc | apply Kd.R_drewN | apply Kd.R_drew)); exact Kd.R_mono (Kd.R_far (p := ⟨gb240, 2, none⟩) (Kd.R_far (p := ⟨gb240, 1, none⟩) (Kd.R_far (p := ⟨gb240, 0, none⟩) (Kd.R_mono HO_6.out (fun k_ hk => (⟨hk, hk.2⟩ : _ ∧ k_ ≠ gb240))) (fun _ hk => hk.2) (.int .i64 t241)) (fun _ hk => hk.2) (.int .i64 t242)) (fun _ hk => hk.2) (.string t243)) (fun _ hk => hk.1.2))); (case aS => exact (below_size bel_)); (case aL => have := LMc6.out; omega); intro v247 w24 ho hb hg hat; rw [← Ny246.out] at ho; have n0_ := am_ (blk_grown (g := gb240) (o := .cells #[.int .i64 t241, .int .i64 t242, .string t243] 41 (0, 0)) (bch_) hg (Kd.R_away HO_6.out (fun _ hk => hk.2))); have n1_ := am_ (hb); have n2_ := am_ (ho); clear BK240; clear HB; clear HO_6; have BK240 := n0_; have HB := n1_; have HO248 := n2_; clear n0_ n1_ n2_; clear ho hb hg hat; obtain ⟨Ao25, co25, eo25⟩ := Kd.R_slice HO248.out; subst eo25) | (go_at_call 78; (with_reducible refine (value_Sign.calls _ _ l0 t244 (⟨#[47]⟩ : ByteArray) false _ ?side1 ?side2 A13.out).mono ?_); (case side1 => exact cin_); (case side2 => exact HC0.out); rintro e w26 ⟨rfl, hb⟩; replace HO248 := am_ (Kd.R_below (row_ HO248) hb); replace BK240 := blb_ BK240 hb; replace HB := am_ (below_step bel_ hb); clear hb))
     go_ret3
     exact ⟨_, rsl_, by (with_reducible repeat (first | apply Kd.R_alloc | apply Kd.R_drewN | apply Kd.R_drew)); exact Kd.R_mono HO248.out (fun _ hk => trivial), bel_⟩
    rw [if_neg c6] at H; exact absurd H (by simp)
   rw [if_neg c5] at H; have c5b0 : (t245 == 0) = false := beq_eq_false_iff_ne.mpr c5; have c5b1 : (t245 != 0) = true := bne_iff_ne.mpr c5; simp only [Option.some.injEq, Prod.mk.injEq] at H; obtain ⟨rfl, rfl, rfl⟩ := H; go_wp2_with (first | ((with_reducible refine gate_dst (N := 9) rfl ?_); refine box_event ?hg (N := 9) ?hd (cs := #[.int .i64 0, .int .i64 0, .string (⟨#[]⟩ : ByteArray)]) (t := 41) ?hr ?_; (case hd => rfl); (case hg => rfl); (case hr => first | (go_simp; done) | (go_simp; rfl)); intro gb240 hg w27 hbox hb; have BK240 := am_ (hbox); have GW240 := am_ ((bsz_ hg : w.heap.size ≤ gb240)); have GE240 := am_ ((bsz_ hg : w.heap.size ≤ gb240)); replace HO_6 := am_ (Kd.R_below (Kd.R_elderB (row_ HO_6) gb240 (Nat.le_of_eq hg.symm)) hb); replace HB := am_ (below_step bel_ hb); clear hb hbox hg) | ((with_reducible refine gate_callee (f := 23) rfl ?_); refine goesL_ (some 16) rfl rfl Tryd.func23 (by kernel_rfl) rfl #[.slice A0 l0.length c0, .int .i64 x7_1] rfl goa_ ?_; (with_reducible refine (line_Read.calls k1 _ _ l0 x7_1 t241 t242 t243 t244 t245 _ ?side1 ?side2 A4.out).mono ?_); (case side1 => exact cin_); (case side2 => exact HC0.out); rintro e w28 ⟨rfl, hb⟩; refine ⟨_, rfl, ?_⟩; replace HO_6 := am_ (Kd.R_below (row_ HO_6) hb); replace BK240 := blb_ BK240 hb; replace HB := am_ (below_step bel_ hb); clear hb; obtain ⟨hcz29_0, hcz29_1, hcz29_2⟩ := c3_ BK240; obtain ⟨hfz29_0, hfz29_1, hfz29_2⟩ := f3_ BK240))
   go_ret3
   exact ⟨_, rsl_, by first | exact Kd.R_nil _ _ _ _ _ | exact Kd.N_nil _ _ _ _ _ | exact Kd.V_nil _ _ _ _ _ | exact Kd.Q_nil _ _ _ _ _ | exact Kd.S_nil _ _ _ _ _, bel_⟩

end Go.Proofs.YtofdhdafabmhmaaDoor.PLf4
end
section
namespace Go.Proofs.YtofdhdafabmhmaaDoor.Giv
open Go.RowKit Go.Proofs.YtofdhdafabmhmaaDoorW.PrintWords Go.Proofs.YtofdhdafabmhmaaDoorW.PrintLast Go.Proofs.YtofdhdafabmhmaaDoorW.PrintMore Go.Proofs.YtofdhdafabmhmaaDoor.PLf4
open Go.Proofs.YtofdhdafabmhmaaDoor.Opn Go.BigFrame
def line_Pair.more (x : List S41) : Option (List S41) := if x.length = 1 then (line_other.f (rd_T41 x 0).f0 (rd_T41 x 0).f1 (rd_T41 x 0).f2).bind fun t => some (x ++ [⟨t.1, t.2.1, t.2.2⟩]) else some x
def line_Pair.f (k : Nat) (l0 : List S67) (a1 : Int) : Option (Int × Int × ByteArray × Int × Int × ByteArray × Int × Int) :=
  (line_lines.f k l0 a1 2).bind fun r => if r.2.2 = 0 then (line_Pair.more r.1).bind fun x => if x.length = 2 then some ((rd_T41 x 0).f0, (rd_T41 x 0).f1, (rd_T41 x 0).f2, (rd_T41 x 1).f0, (rd_T41 x 1).f1, (rd_T41 x 1).f2, r.2.1, 0) else none
    else some (0, 0, ⟨#[]⟩, 0, 0, ⟨#[]⟩, r.2.1, r.2.2)
theorem line_Pair.mono : ∀ l0 a1 k, LeO (line_Pair.f k l0 a1) (line_Pair.f (k + 1) l0 a1) := by
  intro l0 a1 k; unfold line_Pair.f; exact LeO.bind (line_lines.mono _ _ _ _) (fun r => LeO.refl _)
namespace line_Pair
structure Sp (w w1 : World) (b4 b5 : Nat) (x0 x1 : Int) (x2 : ByteArray) (y0 y1 : Int) (y2 : ByteArray) : Prop where
  s : w1.heap[b4]? = some (.cells #[.int .i64 x0, .int .i64 x1, .string x2] 41 (0, 0))
  e : w1.heap[b5]? = some (.cells #[.int .i64 y0, .int .i64 y1, .string y2] 41 (0, 0))
  b : Below w.heap.size w w1
  o0 : w.heap.size ≤ b4
  o1 : b4 < b5
section
variable {w w1 w2 : World} {b4 b5 : Nat} {x0 x1 y0 y1 : Int} {x2 y2 : ByteArray}
theorem Sp.below (h : Sp w w1 b4 b5 x0 x1 x2 y0 y1 y2) (hb : Below w1.heap.size w1 w2) : Sp w w2 b4 b5 x0 x1 x2 y0 y1 y2 := ⟨blk_below h.s hb, blk_below h.e hb, below_step h.b hb, h.o0, h.o1⟩
theorem Sp.drewN (h : Sp w w1 b4 b5 x0 x1 x2 y0 y1 y2) (i : Nat) : Sp w (w1.drewN i) b4 b5 x0 x1 x2 y0 y1 y2 := h.below (pw_below_drewN (Below.refl _ _) i)
theorem Sp.drew (h : Sp w w1 b4 b5 x0 x1 x2 y0 y1 y2) : Sp w w1.drew b4 b5 x0 x1 x2 y0 y1 y2 := h.below (below_drew (Below.refl _ _))
theorem Sp.alloc (h : Sp w w1 b4 b5 x0 x1 x2 y0 y1 y2) (o : Obj) : Sp w (w1.alloc o) b4 b5 x0 x1 x2 y0 y1 y2 := h.below (below_alloc (Below.refl _ _) _)
theorem Sp.grown (h : Sp w w1 b4 b5 x0 x1 x2 y0 y1 y2) {row : Option Nat} (hg : w1.grownBy w2 row) (n0 : some b4 ≠ row) (n1 : some b5 ≠ row) (hb : Below w.heap.size w w2) : Sp w w2 b4 b5 x0 x1 x2 y0 y1 y2 := ⟨blk_grown h.s hg n0, blk_grown h.e hg n1, hb, h.o0, h.o1⟩
theorem Sp.sets (h : Sp w w1 b4 b5 x0 x1 x2 y0 y1 y2) (u0 u1 : Int) (u2 : ByteArray) : Sp w (((w1.setCell ⟨b4, 0, none⟩ (.int .i64 u0)).setCell ⟨b4, 1, none⟩ (.int .i64 u1)).setCell ⟨b4, 2, none⟩ (.string u2)) b4 b5 u0 u1 u2 y0 y1 y2 := by
  have n : b5 ≠ b4 := by have := h.o1; omega
  exact ⟨blk_put (blk_put (blk_put h.s 0 _ rfl) 1 _ rfl) 2 _ rfl, blk_far (blk_far (blk_far h.e n _) n _) n _, below_set (below_set (below_set h.b h.o0) h.o0) h.o0, h.o0, h.o1⟩
theorem Sp.sete (h : Sp w w1 b4 b5 x0 x1 x2 y0 y1 y2) (u0 u1 : Int) (u2 : ByteArray) : Sp w (((w1.setCell ⟨b5, 0, none⟩ (.int .i64 u0)).setCell ⟨b5, 1, none⟩ (.int .i64 u1)).setCell ⟨b5, 2, none⟩ (.string u2)) b4 b5 x0 x1 x2 u0 u1 u2 := by
  have n : b4 ≠ b5 := by have := h.o1; omega
  have m : w.heap.size ≤ b5 := by have := h.o1; have := h.o0; omega
  exact ⟨blk_far (blk_far (blk_far h.s n _) n _) n _, blk_put (blk_put (blk_put h.e 0 _ rfl) 1 _ rfl) 2 _ rfl, below_set (below_set (below_set h.b m) m) m, h.o0, h.o1⟩
theorem Sp.c (h : Sp w w1 b4 b5 x0 x1 x2 y0 y1 y2) : w1.cell? ⟨b4, 0, none⟩ = some (.int .i64 x0) ∧ w1.cell? ⟨b4, 1, none⟩ = some (.int .i64 x1) ∧ w1.cell? ⟨b4, 2, none⟩ = some (.string x2) ∧ w1.cell? ⟨b5, 0, none⟩ = some (.int .i64 y0) ∧ w1.cell? ⟨b5, 1, none⟩ = some (.int .i64 y1) ∧ w1.cell? ⟨b5, 2, none⟩ = some (.string y2) :=
  ⟨(blk_cell h.s 0).trans rfl, (blk_cell h.s 1).trans rfl, (blk_cell h.s 2).trans rfl, (blk_cell h.e 0).trans rfl, (blk_cell h.e 1).trans rfl, (blk_cell h.e 2).trans rfl⟩
theorem Sp.f (h : Sp w w1 b4 b5 x0 x1 x2 y0 y1 y2) : w1.frozen? ⟨b4, 0, none⟩ = false ∧ w1.frozen? ⟨b4, 1, none⟩ = false ∧ w1.frozen? ⟨b4, 2, none⟩ = false ∧ w1.frozen? ⟨b5, 0, none⟩ = false ∧ w1.frozen? ⟨b5, 1, none⟩ = false ∧ w1.frozen? ⟨b5, 2, none⟩ = false :=
  ⟨blk_frozen h.s 0, blk_frozen h.s 1, blk_frozen h.s 2, blk_frozen h.e 0, blk_frozen h.e 1, blk_frozen h.e 2⟩
theorem Sp.ne (h : Sp w w1 b4 b5 x0 x1 x2 y0 y1 y2) : b4 ≠ b5 ∧ b5 ≠ b4 := by have := h.o1; omega
/-- A row of the call's own, but for these two blocks. -/
def Row (w w1 : World) (b4 b5 : Nat) (v : Value) (x : List S41) : Prop := Kd.R k41 41 w1 w.heap.size (fun k => k ≠ b4 ∧ k ≠ b5) v x
theorem Row.sets {v : Value} {x : List S41} (h : Row w w1 b4 b5 v x) (u0 u1 : Int) (u2 : ByteArray) : Row w (((w1.setCell ⟨b4, 0, none⟩ (.int .i64 u0)).setCell ⟨b4, 1, none⟩ (.int .i64 u1)).setCell ⟨b4, 2, none⟩ (.string u2)) b4 b5 v x :=
  Kd.R_far (Kd.R_far (Kd.R_far h (fun _ hk => hk.1) _) (fun _ hk => hk.1) _) (fun _ hk => hk.1) _
theorem Row.sete {v : Value} {x : List S41} (h : Row w w1 b4 b5 v x) (u0 u1 : Int) (u2 : ByteArray) : Row w (((w1.setCell ⟨b5, 0, none⟩ (.int .i64 u0)).setCell ⟨b5, 1, none⟩ (.int .i64 u1)).setCell ⟨b5, 2, none⟩ (.string u2)) b4 b5 v x :=
  Kd.R_far (Kd.R_far (Kd.R_far h (fun _ hk => hk.2) _) (fun _ hk => hk.2) _) (fun _ hk => hk.2) _
end
theorem at_ {P : Program} {id : Nat} {ops : Array Oper} {b : Bool} {Q : Exit → Act → World → Prop} {a : Act} {W : World} (h : ∀ w', w' = W → (Code.region id ops b).wp P Q a w') : (Code.region id ops b).wp P Q a W := h W rfl
def Pair.T3 : Bool × List (List Nat × List Nat) := (true, [([], []), ([], []), ([], []), ([], []), ([0, 0], [0]), ([1, 4, 0, 1, 4], [1]), ([2, 5, 0, 1, 2, 4, 5], [2]), ([3, 6, 0, 1, 2, 3, 4, 5, 6], [3])])
def Pair.B3 : List Nat := [0, 0, 0, 0, 1, 19, 55, 127]
theorem Pair.tab3 : rtab .any (opsOf Tryd.f25 3) = Pair.T3 := by kernel_rfl
theorem Pair.bits3 : waitsOk Pair.T3.2 Pair.B3 = true := by kernel_rfl
def Pair.T6 : Bool × List (List Nat × List Nat) := (true, [([], []), ([0], [0]), ([1], [1]), ([], []), ([3], [3]), ([4], [4]), ([], []), ([2, 0, 1, 2], [2]), ([5, 7, 0, 1, 2, 3, 4, 5, 7], [5]), ([6, 8, 0, 1, 2, 3, 4, 5, 6, 7, 8], [6]), ([9, 0, 1, 2, 3, 4, 5, 6, 7, 8, 9], [])])
def Pair.B6 : List Nat := [0, 1, 3, 0, 8, 24, 0, 7, 191, 511, 1023]
theorem Pair.tab6 : rtab .any (opsOf Tryd.f25 6) = Pair.T6 := by kernel_rfl
theorem Pair.bits6 : waitsOk Pair.T6.2 Pair.B6 = true := by kernel_rfl
set_option maxHeartbeats 16000000 in
set_option maxRecDepth 100000 in
theorem calls (k : Nat) (A0 : Option Addr) (c0 : Nat) (l0 : List S67) (a1 r1 r2 : Int) (r3 : ByteArray) (r4 r5 : Int) (r6 : ByteArray) (r7 r8 : Int) (w : World) (hr0 : Kd.C k67 w A0 l0.length l0) (hc0 : l0.length ≤ c0) (h : line_Pair.f k l0 a1 = some (r1, r2, r3, r4, r5, r6, r7, r8)) :
    Calls Tryd.prog 25 #[.slice A0 l0.length c0, .int .i64 a1] w fun e w' => e = .returned (.tuple #[.agg #[.int .i64 r1, .int .i64 r2, .string r3], .agg #[.int .i64 r4, .int .i64 r5, .string r6], .int .i64 r7, .int .i64 r8]) ∧ Below w.heap.size w w' := by
  have hu2 := Tryd.underlying41; have HR := am_ hr0; have HC := am_ hc0; have HB := am_ (Below.refl w.heap.size w); unfold line_Pair.f at h; replace h := bs_ h; obtain ⟨⟨t1, t2, t3⟩, hk, h⟩ := h; have A1 := am_ hk; clear hk hr0 hc0; dsimp only at h; by_cases e0 : t3 = 0
  · rw [if_pos e0] at h
    have q0 : (t3 != 0) = false := bne_eq_false_iff_eq.2 e0; clear e0; replace h := bs_ h; obtain ⟨x, hm, h⟩ := h; by_cases e1 : x.length = 2
    · rw [if_pos e1] at h
      simp only [Option.some.injEq, Prod.mk.injEq] at h; obtain ⟨rfl, rfl, rfl, rfl, rfl, rfl, rfl, rfl⟩ := h; have E1 := am_ e1; have HM := am_ hm; clear e1 hm; go_enter Tryd.func25, Tryd.ntmps25
      go_upto_if 24 with (first | go_step3 | ((with_reducible refine gate_dst (N := 4) rfl ?_); refine box_event ?hg (N := 4) ?hd (cs := #[.int .i64 0, .int .i64 0, .string (⟨#[]⟩ : ByteArray)]) (t := 41) ?hr ?_; (case hd => rfl); (case hg => rfl); (case hr => first | (go_simp; done) | (go_simp; rfl)); intro b4 hg w2 hbox hb; have n0_ := am_ (below_step bel_ hb); have BL := am_ hbox; have OL := am_ ((bsz_ hg : w.heap.size ≤ b4)); clear HB; have HB := n0_; clear n0_ hb hbox hg) | ((with_reducible refine gate_dst (N := 5) rfl ?_); refine box_event ?hg (N := 5) ?hd (cs := #[.int .i64 0, .int .i64 0, .string (⟨#[]⟩ : ByteArray)]) (t := 41) ?hr ?_; (case hd => rfl); (case hg => rfl); (case hr => first | (go_simp; done) | (go_simp; rfl)); intro b5 hg w3 hbox hb; have HX : Aside0 (Sp w w3 b4 b5 0 0 ⟨#[]⟩ 0 0 ⟨#[]⟩) := ⟨⟨(blb_ BL hb).out, hbox, below_step bel_ hb, OL.out, line_Read.blt_ BL hg⟩⟩; clear HB BL OL hb hbox hg) | ((with_reducible refine gate_callee (f := 49) rfl ?_); refine goesL_ (some 12) rfl rfl Tryd.func49 (by kernel_rfl) rfl #[.slice A0 l0.length c0, .int .i64 a1, .int .i64 2] rfl goa_ ?_; (with_reducible refine (line_lines.calls k _ _ l0 a1 2 t1 t2 t3 _ ?side1 ?side2 A1.out).mono ?_); (case side1 => exact Kd.C_below HR.out (show Sp w _ b4 b5 0 0 ⟨#[]⟩ 0 0 ⟨#[]⟩ by repeat (first | (with_reducible first | exact HX.out | apply Sp.drewN | apply Sp.drew | apply Sp.alloc))).b); (case side2 => exact HC.out); rintro e w10 ⟨v, rfl, ho0, hb⟩; refine ⟨_, rfl, ?_⟩; have HO : Aside0 (Row w w10 b4 b5 v t1) := ⟨Kd.R_mono (Kd.R_lower (Kd.R_newB (Kd.R_newB ho0 (g := b4) (show Sp w _ b4 b5 0 0 ⟨#[]⟩ 0 0 ⟨#[]⟩ by repeat (first | (with_reducible first | exact HX.out | apply Sp.drewN | apply Sp.drew | apply Sp.alloc))).s) (g := b5) (show Sp w _ b4 b5 0 0 ⟨#[]⟩ 0 0 ⟨#[]⟩ by repeat (first | (with_reducible first | exact HX.out | apply Sp.drewN | apply Sp.drew | apply Sp.alloc))).e) (below_size (show Sp w _ b4 b5 0 0 ⟨#[]⟩ 0 0 ⟨#[]⟩ by repeat (first | (with_reducible first | exact HX.out | apply Sp.drewN | apply Sp.drew | apply Sp.alloc))).b)) (fun _ hk => ⟨hk.1.2, hk.2⟩)⟩; have n0_ := am_ (Sp.below (show Sp w _ b4 b5 0 0 ⟨#[]⟩ 0 0 ⟨#[]⟩ by repeat (first | (with_reducible first | exact HX.out | apply Sp.drewN | apply Sp.drew | apply Sp.alloc))) hb); clear HX hb ho0; have HX := n0_; clear n0_; obtain ⟨Ao, cv, eo⟩ := Kd.R_slice HO.out; subst eo; obtain ⟨hc0, hc1, hc2, hc3, hc4, hc5⟩ := HX.out.c; obtain ⟨hz0, hz1, hz2, hz3, hz4, hz5⟩ := HX.out.f; obtain ⟨hn0, hn1⟩ := HX.out.ne))
      go_cut [8] (fun v8 wc => ∃ (ad : Addr) (cx : Nat), v8 = .slice (some ad) x.length cx ∧ Aside0 (Sp w wc b4 b5 0 0 ⟨#[]⟩ 0 0 ⟨#[]⟩) ∧ Aside0 (Row w wc b4 b5 (.slice (some ad) x.length cx) x))
      case first =>
        have hm := HM.out; clear HM; have hn : 0 < t1.length := by
          unfold line_Pair.more at hm; by_cases e2 : t1.length = 1
          · omega
          rw [if_neg e2] at hm; have := E1.out
          rw [← si_ hm] at this; omega
        obtain ⟨ad, cv2, ev⟩ := Kd.R_slice1 HO.out hn; cases ev
        unfold line_Pair.more at hm; by_cases e2 : t1.length = 1
        · rw [if_pos e2] at hm
          replace hm := bs_ hm; obtain ⟨⟨u1, u2, u3⟩, ho, hm⟩ := hm; have A2 := am_ ho; obtain rfl := si_ hm; have c5b0 : decide ((t1.length : Int) < 2) = true := dt_ (by omega); have c5b1 : decide (t1.length < 2) = true := dt_ (by omega); obtain ⟨_, e0, hx0, hx1, hx2⟩ := at_T41 (Kd.R_reads' HO.out).2.2 0 (by omega) (by omega); cases e0
          have qi : (0 < t1.length) = True := eq_true hn; have E2 := am_ e2; clear ho hn e2; (try rw [show ((0 : Int)).toNat = 0 from rfl] at hx0 hx1 hx2)
          (try rw [show 0 * 3 = 0 from rfl] at hx0 hx1 hx2)
          (try rw [Addr.add_zero'] at hx0 hx1 hx2)
          (first | rw [c5b0] | rw [c5b1] | (simp only [i64_w, i32_w]; rw [c5b0]) | skip)
          go_wp2_with (first | go_step3 | ((with_reducible refine gate_callee (f := 48) rfl ?_); refine goesL_ (some 29) rfl rfl Tryd.func48 (by kernel_rfl) rfl #[.agg #[.int .i64 (rd_T41 t1 0).f0, .int .i64 (rd_T41 t1 0).f1, .string (rd_T41 t1 0).f2]] rfl goa_ ?_; (with_reducible refine (line_other.calls _ _ _ u1 u2 u3 _ A2.out).mono ?_); rintro e w13 ⟨rfl, hb⟩; refine ⟨_, rfl, ?_⟩; have n0_ := am_ (Sp.below (show Sp w _ b4 b5 0 0 ⟨#[]⟩ 0 0 ⟨#[]⟩ by repeat (first | (with_reducible first | exact HX.out | apply Sp.drewN | apply Sp.drew | apply Sp.alloc))) hb); have n1_ : Aside0 (Row w w13 b4 b5 (.slice (some ad) t1.length cv) t1) := ⟨Kd.R_below (row_ HO) hb⟩; clear HX HO hb; have HX := n0_; have HO := n1_; clear n0_ n1_) | ((with_reducible refine gate_builtin (b := .append) (xs := #[.tmp 25, .tmp 30]) rfl ?_); at_builtin; refine Kd.R_append k41 (w0 := w) w.heap.size rfl (.tmp 25) (.tmp 30) 77 41 (.agg #[(.int .i64 0), (.int .i64 0), (.string ⟨#[]⟩)]) 32 rfl Tryd.underlying77 info41 rfl (by decide) (by omega) (.slice (some ad) t1.length cv) t1 (⟨u1, u2, u3⟩ : S41) [.int .i64 u1, .int .i64 u2, .string u3] (fun k => k ≠ b4 ∧ k ≠ b5) (fun _ => False) rfl rfl ?aP (fun _ hk => hk.elim) ?aF ?aO ?aB ?aS ?aL ?_; (case aP => exact k41_mkM _ _ _ (⟨u1, u2, u3⟩ : S41)); (case aB => exact (Sp.b (show Sp w _ b4 b5 0 0 ⟨#[]⟩ 0 0 ⟨#[]⟩ by repeat (first | (with_reducible first | exact HX.out | apply Sp.drewN | apply Sp.drew | apply Sp.alloc))))); (case aF => exact (fun k hk => by have := blk_lt (Sp.s (show Sp w _ b4 b5 0 0 ⟨#[]⟩ 0 0 ⟨#[]⟩ by repeat (first | (with_reducible first | exact HX.out | apply Sp.drewN | apply Sp.drew | apply Sp.alloc)))); have := blk_lt (Sp.e (show Sp w _ b4 b5 0 0 ⟨#[]⟩ 0 0 ⟨#[]⟩ by repeat (first | (with_reducible first | exact HX.out | apply Sp.drewN | apply Sp.drew | apply Sp.alloc)))); exact ⟨by omega, by omega⟩)); (case aO => exact (row_ HO)); (case aS => exact (below_size (Sp.b (show Sp w _ b4 b5 0 0 ⟨#[]⟩ 0 0 ⟨#[]⟩ by repeat (first | (with_reducible first | exact HX.out | apply Sp.drewN | apply Sp.drew | apply Sp.alloc)))))); (case aL => have := E2.out; omega); intro v2 w14 ho hb hg hat; have HG := am_ (HO.out.1 ad.block rfl); have n0_ := am_ (Sp.grown (show Sp w _ b4 b5 0 0 ⟨#[]⟩ 0 0 ⟨#[]⟩ by repeat (first | (with_reducible first | exact HX.out | apply Sp.drewN | apply Sp.drew | apply Sp.alloc))) hg (fun e => HG.out.1 (si_ e).symm) (fun e => HG.out.2 (si_ e).symm) hb); clear HX HO; have HX := n0_; have HO : Aside0 (Row w w14 b4 b5 v2 (t1 ++ [⟨u1, u2, u3⟩])) := ⟨ho⟩; clear n0_ ho hb hg hat HG))
          have hl : (t1 ++ [(⟨u1, u2, u3⟩ : S41)]).length = t1.length + 1 := by rw [List.length_append, List.length_singleton]
          obtain ⟨ad2, cx, rfl⟩ := Kd.R_slice1 HO.out (by rw [hl]; omega); go_meet
          case rel => exact ⟨ad2, cx, rfl, HX, HO⟩
        rw [if_neg e2] at hm; obtain rfl := si_ hm; have c5b0 : decide ((t1.length : Int) < 2) = false := df_ (by have := E1.out; omega); have c5b1 : decide (t1.length < 2) = false := df_ (by have := E1.out; omega); clear hn e2; (first | rw [c5b0] | rw [c5b1] | (simp only [i64_w, i32_w]; rw [c5b0]) | skip)
        go_wp2_with (first | go_step3)
        go_meet
        case rel => exact ⟨ad, cv, rfl, ⟨(show Sp w _ b4 b5 0 0 ⟨#[]⟩ 0 0 ⟨#[]⟩ by repeat (first | (with_reducible first | exact HX.out | apply Sp.drewN | apply Sp.drew | apply Sp.alloc)))⟩, ⟨(row_ HO)⟩⟩
      clear HX HO HM; obtain ⟨ad, cx, rfl, HX, HO⟩ := hcut; have qx0 : (0 < x.length) = True := eq_true (by have := E1.out; omega); have qx1 : (1 < x.length) = True := eq_true (by have := E1.out; omega); go_wp2_with (first | go_step3)
      refine at_ (fun w4 hw4 => ?_)
      have HX4 : Aside0 (Sp w w4.drew b4 b5 0 0 ⟨#[]⟩ 0 0 ⟨#[]⟩) := ⟨Sp.drew (by rw [hw4]; exact (show Sp w _ b4 b5 0 0 ⟨#[]⟩ 0 0 ⟨#[]⟩ by repeat (first | (with_reducible first | exact HX.out | apply Sp.drewN | apply Sp.drew | apply Sp.alloc))))⟩
      have HO4 : Aside0 (Row w w4.drew b4 b5 (.slice (some ad) x.length cx) x) := ⟨Kd.R_drew (by rw [hw4]; exact (row_ HO))⟩
      clear hw4 HX HO; have hx2 := E1.out; refine start_ (n := 11) (S := (fun w' => Kd.C k41 w' (some ad) x.length x)) (ds := []) #[false, false, false, false, false, false, false, false, false, false, false] (by kernel_rfl) rfl rfl (Kd.R_reads' HO4.out).2.2 (fun hHeld => ?_)
      refine with_tabW Pair.tab6 Pair.bits6 (fun HT_ HW_ => ?_)
      generalize w4.drew = w5 at HX4 HO4 hHeld ⊢
      refine pus_ 0 (some 32) #[true, false, false, false, false, false, false, false, false, false, false] rfl rfl HT_.out ?_
      refine pus_ 1 (some 33) #[true, true, false, false, false, false, false, false, false, false, false] rfl rfl HT_.out ?_
      refine take_ (i := 2) (N := (some 34)) (v := ?_) (a' := ?_) #[true, true, true, false, false, false, false, false, false, false, false] rfl rfl (take_ofW HT_.out HW_.out (by kernel_rfl)) (fun _ _ _ h => h) (Or.inl ⟨by rfl, ?_⟩) hHeld ?_ ?_
      rotate_left
      ·rintro w' hS
       obtain ⟨_, e0, h0, h1, h2⟩ := at_T41 hS 0 (by omega) (by omega); cases e0
       (try rw [show ((0 : Int)).toNat = 0 from rfl] at h0 h1 h2)
       (try rw [show 0 * 3 = 0 from rfl] at h0 h1 h2)
       (try rw [Addr.add_zero'] at h0 h1 h2)
       (try simp only [Addr.add, show ((1 : Int)).toNat * 3 = 3 from rfl, show ((3 : Nat) = 0) = False from eq_false (by decide), if_false] at h0 h1 h2)
       go_simp
       with_reducible rfl
      rotate_left
      ·simp only [Act.put, List.setIfInBounds_toArray, List.set_cons_zero, List.set_cons_succ, i64_w, i32_w]; rfl
      refine pus_ 3 (some 35) #[true, true, true, true, false, false, false, false, false, false, false] rfl rfl HT_.out ?_
      refine pus_ 4 (some 36) #[true, true, true, true, true, false, false, false, false, false, false] rfl rfl HT_.out ?_
      refine take_ (i := 5) (N := (some 37)) (v := ?_) (a' := ?_) #[true, true, true, true, true, true, false, false, false, false, false] rfl rfl (take_ofW HT_.out HW_.out (by kernel_rfl)) (fun _ _ _ h => h) (Or.inl ⟨by rfl, ?_⟩) hHeld ?_ ?_
      rotate_left
      ·rintro w' hS
       obtain ⟨_, e0, h0, h1, h2⟩ := at_T41 hS 1 (by omega) (by omega); cases e0
       (try rw [show ((0 : Int)).toNat = 0 from rfl] at h0 h1 h2)
       (try rw [show 0 * 3 = 0 from rfl] at h0 h1 h2)
       (try rw [Addr.add_zero'] at h0 h1 h2)
       (try simp only [Addr.add, show ((1 : Int)).toNat * 3 = 3 from rfl, show ((3 : Nat) = 0) = False from eq_false (by decide), if_false] at h0 h1 h2)
       go_simp
       with_reducible rfl
      rotate_left
      ·simp only [Act.put, List.setIfInBounds_toArray, List.set_cons_zero, List.set_cons_succ, i64_w, i32_w]; rfl
      refine pus_ 6 (some 38) #[true, true, true, true, true, true, true, false, false, false, false] rfl rfl HT_.out ?_
      obtain ⟨hz0, hz1, hz2, hz3, hz4, hz5⟩ := HX4.out.f; obtain ⟨hc0, hc1, hc2, hc3, hc4, hc5⟩ := HX4.out.c; have HX5 := am_ (HX4.out.sets (rd_T41 x 0).f0 (rd_T41 x 0).f1 (rd_T41 x 0).f2); have HO5 := am_ (Row.sets HO4.out (rd_T41 x 0).f0 (rd_T41 x 0).f1 (rd_T41 x 0).f2); have HX6 := am_ (HX5.out.sete (rd_T41 x 1).f0 (rd_T41 x 1).f1 (rd_T41 x 1).f2); have HO6 := am_ (Row.sete HO5.out (rd_T41 x 1).f0 (rd_T41 x 1).f1 (rd_T41 x 1).f2); refine one_ (i := 7) (N := none) #[true, true, true, true, true, true, true, true, false, false, false] rfl rfl (one_of HT_.out (by kernel_rfl)) (by decide) (fun K hK => ?_)
      refine skip_ (w1 := ?_) (by rfl) rfl ?_ ?_
      rotate_left
      ·go_simp
       rfl
      refine hK.out _ _ (Kd.R_reads' HO5.out).2.2 (fun hHeld => ?_)
      clear hK K; refine one_ (i := 8) (N := none) #[true, true, true, true, true, true, true, true, true, false, false] rfl rfl (one_of HT_.out (by kernel_rfl)) (by decide) (fun K hK => ?_)
      refine skip_ (w1 := ?_) (by rfl) rfl ?_ ?_
      rotate_left
      ·go_simp
       rfl
      refine hK.out _ _ (Kd.R_reads' HO6.out).2.2 (fun hHeld => ?_)
      clear hK K; refine pus_ 9 (some 6) #[true, true, true, true, true, true, true, true, true, true, false] rfl rfl HT_.out ?_
      refine pus_ 10 (some 7) #[true, true, true, true, true, true, true, true, true, true, true] rfl rfl HT_.out ?_
      refine done_ (done_of HT_.out (by kernel_rfl)) ?_
      go_wp2; (try (rw [Exit.noGoto_ret]; try dsimp only [Exit.inBlock, Exit.then]))
      refine bodyPost_ret (results_list (rs := [.cell 4 41, .cell 5 41, .tmp 6, .tmp 7]) rfl (by simp) (.cell b4 41 #[.int .i64 (rd_T41 x 0).f0, .int .i64 (rd_T41 x 0).f1, .string (rd_T41 x 0).f2] (0, 0) _ rfl HX6.out.s Tryd.underlying41 rfl (by kernel_rfl) (.cell b5 41 #[.int .i64 (rd_T41 x 1).f0, .int .i64 (rd_T41 x 1).f1, .string (rd_T41 x 1).f2] (0, 0) _ rfl HX6.out.e Tryd.underlying41 rfl (by kernel_rfl) (.tmp (.tmp .nil))))) rfl ?_
      exact ⟨rsl_, HX6.out.b⟩
    rw [if_neg e1] at h; cases h
  rw [if_neg e0] at h; have q0 : (t3 != 0) = true := bne_iff_ne.2 e0; clear e0; simp only [Option.some.injEq, Prod.mk.injEq] at h; obtain ⟨rfl, rfl, rfl, rfl, rfl, rfl, rfl, rfl⟩ := h; go_enter Tryd.func25, Tryd.ntmps25
  go_wp2_with (first | go_step3 | ((with_reducible refine gate_dst (N := 4) rfl ?_); refine box_event ?hg (N := 4) ?hd (cs := #[.int .i64 0, .int .i64 0, .string (⟨#[]⟩ : ByteArray)]) (t := 41) ?hr ?_; (case hd => rfl); (case hg => rfl); (case hr => first | (go_simp; done) | (go_simp; rfl)); intro b4 hg w2 hbox hb; have n0_ := am_ (below_step bel_ hb); have BL := am_ hbox; have OL := am_ ((bsz_ hg : w.heap.size ≤ b4)); clear HB; have HB := n0_; clear n0_ hb hbox hg) | ((with_reducible refine gate_dst (N := 5) rfl ?_); refine box_event ?hg (N := 5) ?hd (cs := #[.int .i64 0, .int .i64 0, .string (⟨#[]⟩ : ByteArray)]) (t := 41) ?hr ?_; (case hd => rfl); (case hg => rfl); (case hr => first | (go_simp; done) | (go_simp; rfl)); intro b5 hg w3 hbox hb; have HX : Aside0 (Sp w w3 b4 b5 0 0 ⟨#[]⟩ 0 0 ⟨#[]⟩) := ⟨⟨(blb_ BL hb).out, hbox, below_step bel_ hb, OL.out, line_Read.blt_ BL hg⟩⟩; clear HB BL OL hb hbox hg) | ((with_reducible refine gate_callee (f := 49) rfl ?_); refine goesL_ (some 12) rfl rfl Tryd.func49 (by kernel_rfl) rfl #[.slice A0 l0.length c0, .int .i64 a1, .int .i64 2] rfl goa_ ?_; (with_reducible refine (line_lines.calls k _ _ l0 a1 2 t1 t2 t3 _ ?side1 ?side2 A1.out).mono ?_); (case side1 => exact Kd.C_below HR.out (show Sp w _ b4 b5 0 0 ⟨#[]⟩ 0 0 ⟨#[]⟩ by repeat (first | (with_reducible first | exact HX.out | apply Sp.drewN | apply Sp.drew | apply Sp.alloc))).b); (case side2 => exact HC.out); rintro e w10 ⟨v, rfl, ho0, hb⟩; refine ⟨_, rfl, ?_⟩; have HO : Aside0 (Row w w10 b4 b5 v t1) := ⟨Kd.R_mono (Kd.R_lower (Kd.R_newB (Kd.R_newB ho0 (g := b4) (show Sp w _ b4 b5 0 0 ⟨#[]⟩ 0 0 ⟨#[]⟩ by repeat (first | (with_reducible first | exact HX.out | apply Sp.drewN | apply Sp.drew | apply Sp.alloc))).s) (g := b5) (show Sp w _ b4 b5 0 0 ⟨#[]⟩ 0 0 ⟨#[]⟩ by repeat (first | (with_reducible first | exact HX.out | apply Sp.drewN | apply Sp.drew | apply Sp.alloc))).e) (below_size (show Sp w _ b4 b5 0 0 ⟨#[]⟩ 0 0 ⟨#[]⟩ by repeat (first | (with_reducible first | exact HX.out | apply Sp.drewN | apply Sp.drew | apply Sp.alloc))).b)) (fun _ hk => ⟨hk.1.2, hk.2⟩)⟩; have n0_ := am_ (Sp.below (show Sp w _ b4 b5 0 0 ⟨#[]⟩ 0 0 ⟨#[]⟩ by repeat (first | (with_reducible first | exact HX.out | apply Sp.drewN | apply Sp.drew | apply Sp.alloc))) hb); clear HX hb ho0; have HX := n0_; clear n0_; obtain ⟨Ao, cv, eo⟩ := Kd.R_slice HO.out; subst eo; obtain ⟨hc0, hc1, hc2, hc3, hc4, hc5⟩ := HX.out.c; obtain ⟨hz0, hz1, hz2, hz3, hz4, hz5⟩ := HX.out.f; obtain ⟨hn0, hn1⟩ := HX.out.ne))
  refine at_ (fun w4 hw4 => ?_)
  have HX4 : Aside0 (Sp w w4.drew b4 b5 0 0 ⟨#[]⟩ 0 0 ⟨#[]⟩) := ⟨Sp.drew (by rw [hw4]; exact (show Sp w _ b4 b5 0 0 ⟨#[]⟩ 0 0 ⟨#[]⟩ by repeat (first | (with_reducible first | exact HX.out | apply Sp.drewN | apply Sp.drew | apply Sp.alloc))))⟩
  clear hw4 HX hc0 hc1 hc2 hc3 hc4 hc5 hz0 hz1 hz2 hz3 hz4 hz5; refine start_ (n := 8) (S := (fun w' => w'.cell? ⟨b4, 0, none⟩ = some (.int .i64 0) ∧ w'.cell? ⟨b4, 1, none⟩ = some (.int .i64 0) ∧ w'.cell? ⟨b4, 2, none⟩ = some (.string ⟨#[]⟩) ∧ w'.cell? ⟨b5, 0, none⟩ = some (.int .i64 0) ∧ w'.cell? ⟨b5, 1, none⟩ = some (.int .i64 0) ∧ w'.cell? ⟨b5, 2, none⟩ = some (.string ⟨#[]⟩))) (ds := []) #[false, false, false, false, false, false, false, false] (by kernel_rfl) rfl rfl HX4.out.c (fun hHeld => ?_)
  refine with_tabW Pair.tab3 Pair.bits3 (fun HT_ HW_ => ?_)
  generalize w4.drew = w5 at HX4 hHeld ⊢
  refine tas_ 0 (some 18) #[true, false, false, false, false, false, false, false] rfl rfl HT_.out HW_.out hHeld ?_
  refine tas_ 1 (some 19) #[true, true, false, false, false, false, false, false] rfl rfl HT_.out HW_.out hHeld ?_
  refine pus_ 2 (some 20) #[true, true, true, false, false, false, false, false] rfl rfl HT_.out ?_
  refine pus_ 3 (some 21) #[true, true, true, true, false, false, false, false] rfl rfl HT_.out ?_
  obtain ⟨hz0, hz1, hz2, hz3, hz4, hz5⟩ := HX4.out.f; obtain ⟨hc0, hc1, hc2, hc3, hc4, hc5⟩ := HX4.out.c; have HX5 := am_ (HX4.out.sets 0 0 ⟨#[]⟩); have HX6 := am_ (HX5.out.sete 0 0 ⟨#[]⟩); refine one_ (i := 4) (N := none) #[true, true, true, true, true, false, false, false] rfl rfl (one_of HT_.out (by kernel_rfl)) (by decide) (fun K hK => ?_)
  refine skip_ (w1 := ?_) (by rfl) rfl ?_ ?_
  rotate_left
  ·go_simp
   rfl
  refine hK.out _ _ HX5.out.c (fun hHeld => ?_)
  clear hK K; refine one_ (i := 5) (N := none) #[true, true, true, true, true, true, false, false] rfl rfl (one_of HT_.out (by kernel_rfl)) (by decide) (fun K hK => ?_)
  refine skip_ (w1 := ?_) (by rfl) rfl ?_ ?_
  rotate_left
  ·go_simp
   rfl
  refine hK.out _ _ HX6.out.c (fun hHeld => ?_)
  clear hK K; refine pus_ 6 (some 6) #[true, true, true, true, true, true, true, false] rfl rfl HT_.out ?_
  refine pus_ 7 (some 7) #[true, true, true, true, true, true, true, true] rfl rfl HT_.out ?_
  refine done_ (done_of HT_.out (by kernel_rfl)) ?_
  go_wp2; (try (rw [Exit.noGoto_ret]; try dsimp only [Exit.inBlock, Exit.then]))
  refine bodyPost_ret (results_list (rs := [.cell 4 41, .cell 5 41, .tmp 6, .tmp 7]) rfl (by simp) (.cell b4 41 #[.int .i64 0, .int .i64 0, .string (⟨#[]⟩ : ByteArray)] (0, 0) _ rfl HX6.out.s Tryd.underlying41 rfl (by kernel_rfl) (.cell b5 41 #[.int .i64 0, .int .i64 0, .string (⟨#[]⟩ : ByteArray)] (0, 0) _ rfl HX6.out.e Tryd.underlying41 rfl (by kernel_rfl) (.tmp (.tmp .nil))))) rfl ?_
  exact ⟨rsl_, HX6.out.b⟩
end line_Pair
end Go.Proofs.YtofdhdafabmhmaaDoor.Giv
end
