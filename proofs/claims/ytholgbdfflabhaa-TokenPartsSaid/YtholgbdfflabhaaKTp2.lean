/- TokenPartsSaid, part 3 of 7: contracts of the program's functions, the words that they use, and the plain laws on what they compute. Conditions: none beyond what the statements say. -/
import Derived.Test.YtholgbdfflabhaaKTp1
import Derived.Test.YtholgbdfflabhaaKTp0
import Derived.BigRegion
import Derived.BigQuiet
import Derived.Deep.QuietTactic
import Derived.WalkLawsBesides
set_option linter.unusedVariables false
set_option linter.unusedSimpArgs false
section
namespace Go.Proofs.Ytholgbdfflabhaa.Giv
open Go.RowKit Go.Proofs.YtholgbdfflabhaaW.PrintWords Go.Proofs.YtholgbdfflabhaaW.PrintLast Go.Proofs.YtholgbdfflabhaaW.PrintMore Go.Proofs.Ytholgbdfflabhaa.PTk
open Go.Proofs.Ytholgbdfflabhaa.Opn Go.BigFrame
theorem Lx.fz {W : World} {g : Nat} {s : ByteArray} {i : Nat} (h : Lx W g s i) : W.frozen? ⟨g, 1, none⟩ = false := blk_frozen h 1
def byteAt (s : ByteArray) (i : Nat) : UInt8 := UInt8.ofNat (bt s (i : Nat)).toNat
theorem byteAt_val (s : ByteArray) (i : Nat) : ((byteAt s i).toNat : Int) = bt s (i : Nat) := by
  have := bt_range s (i : Nat)
  unfold byteAt
  rw [UInt8.toNat_ofNat']
  omega
theorem isB_keep {T e : TypeId} {B b : Nat} {l : List Value} {w w' : World} (h : Lib.IsBuilder T e B b l w) (hk : ∀ k, B ≤ k → k < w.heap.size → w'.heap[k]? = w.heap[k]?) : Lib.IsBuilder T e B b l w' := by
  have key : ∀ p, Lib.BuilderAt T e B b p l w → Lib.BuilderAt T e B b p l w' := by
    intro p hp
    have hlt := hp.lt
    obtain ⟨hB, v, hbk, hown, hne⟩ := hp
    refine ⟨hB, v, (hk b hB hlt).trans hbk, ⟨hown.1, ?_⟩, hne⟩
    rcases hown.2 with h1 | ⟨g, cap, cur, hv, hg, hc, h4⟩
    · exact Or.inl h1
    · exact Or.inr ⟨g, cap, cur, hv, hg, (hk g hg (Array.getElem?_eq_some_iff.1 hc).1).trans hc, h4⟩
  rcases h with h | h
  · exact Or.inl (key _ h)
  · exact Or.inr (key _ h)
theorem isB_drewN {T e : TypeId} {B b : Nat} {l : List Value} {w : World} (h : Lib.IsBuilder T e B b l w) (n : Nat) : Lib.IsBuilder T e B b l (w.drewN n) := h
theorem isB_drew {T e : TypeId} {B b : Nat} {l : List Value} {w : World} (h : Lib.IsBuilder T e B b l w) : Lib.IsBuilder T e B b l w.drew := h
theorem isB_call {T e : TypeId} {B b : Nat} {l : List Value} {w w' : World} (h : Lib.IsBuilder T e B b l w) (hb : Below w.heap.size w w') : Lib.IsBuilder T e B b l w' := isB_keep h (fun k _ hk => hb.block k hk)
theorem isB_set {T e : TypeId} {B b g o : Nat} {v : Value} {l : List Value} {w : World} (h : Lib.IsBuilder T e B b l w) (hg : g < B) : Lib.IsBuilder T e B b l (w.setCell ⟨g, o, none⟩ v) :=
  isB_keep h (fun k hk _ => Below.heap_setCell w _ v k (show k ≠ g by omega))
theorem Lx.lower {W W' : World} {g B : Nat} {s : ByteArray} {i : Nat} (h : Lx W g s i) (hb : Below B W W') (hg : g < B) : Lx W' g s i := (hb.block g hg).trans h
theorem Lk.lower {g B : Nat} {w w1 w2 : World} (h : Lk g w w1) (k : Below B w1 w2) (hB : w.heap.size ≤ B) : Lk g w w2 :=
  ⟨k.os.trans h.os, k.tape.trans h.tape, k.output.trans h.output, Nat.le_trans h.size k.size, fun i hi hg => (k.block i (by omega)).trans (h.heap i hi hg)⟩
theorem built1 {T e : TypeId} {B b : Nat} {l : List UInt8} {c : UInt8} {v : Int} {w : World} (hv : v = (c.toNat : Int)) (h : Lib.BuilderAt T e B b (.pointer (some ⟨b, 0, none⟩)) (Lib.byteCells l ++ [.int .u8 v]) w) : Lib.IsBuilder T e B b (Lib.byteCells (l ++ [c])) w := Or.inr (by
  subst hv
  unfold Lib.byteCells at *
  rw [List.map_append]
  exact h)
theorem builtS {T e : TypeId} {B b : Nat} {l : List UInt8} {r : ByteArray} {w : World} (h : Lib.BuilderAt T e B b (.pointer (some ⟨b, 0, none⟩)) (Lib.byteCells l ++ Lib.strCells r) w) : Lib.IsBuilder T e B b (Lib.byteCells (l ++ r.data.toList)) w := Or.inr (by
  unfold Lib.byteCells Lib.strCells at *
  rw [List.map_append]
  exact h)
set_option maxHeartbeats 2000000 in
set_option maxRecDepth 100000 in
theorem writeByte_calls (B b : Nat) (bs : List Value) (c : Int) (w : World) (h : Lib.IsBuilder 53 5 B b bs w) (hlen : bs.length + 1 ≤ 140737488355328) (hBw : B ≤ w.heap.size) :
    Calls Try.prog 31 #[.pointer (some ⟨b, 0, none⟩), .int .u8 c] w fun e w' => e = .returned .nilIface ∧ (Lib.BuilderAt 53 5 B b (.pointer (some ⟨b, 0, none⟩)) (bs ++ [.int .u8 c]) w' ∧ Below B w w') := by
  obtain ⟨i0, hi, hz0, hz1, hz2⟩ := info_parts byte_info
  go_enter Try.func31, Try.ntmps31
  go_wp2_with (go_at_call 43; refine (copyCheck_calls B b bs _ h).mono ?_)
  rintro e w1 ⟨rfl, h1, hb1⟩
  have hlt := h1.lt
  obtain ⟨hB, v, hbk, hown, hne⟩ := h1
  have c0 : w1.cell? ⟨b, 0, none⟩ = some (.pointer (some ⟨b, 0, none⟩)) := by rw [Lib.cell_of_heap hbk]; rfl
  have c1 : w1.cell? ⟨b, 1, none⟩ = some v := by rw [Lib.cell_of_heap hbk]; rfl
  go_wp2_with (at_builtin; refine wpList_append_own _ rfl _ _ 22 rfl B 5 i0 (.int .u8 0) 1 1 Try.underlying22 hi hz0 hz1 hz2 rfl (by decide) _ _ _ rfl (hown.alloc _) ⟨w1.heap.size, 0, none⟩ 1 1 [.int .u8 c] rfl rfl ?c1 ?c2 ?c3 ?c4 ?c5 ?_)
  case c1 =>
    intro j u hj
    match j, hj with
    | 0, hj => simp at hj; subst hj; simp [Addr.add]
  case c2 => intro u hu; simp at hu; subst hu; rfl
  case c3 => unfold maxLen; omega
  case c4 => omega
  case c5 => have := hb1.size; simp; omega
  intro v' w2 hown' hgrow _
  have hb2 : w2.heap[b]? = some (.cells #[.pointer (some ⟨b, 0, none⟩), v] 53 (0, 0)) := by
    rw [hgrow.block b (by simp; omega) (fun e => hne e.symm), Lib.alloc_old w1 _ b hlt]
    exact hbk
  have d0 : w2.cell? ⟨b, 0, none⟩ = some (.pointer (some ⟨b, 0, none⟩)) := by rw [Lib.cell_of_heap hb2]; rfl
  have d1 : w2.cell? ⟨b, 1, none⟩ = some v := by rw [Lib.cell_of_heap hb2]; rfl
  have f1 : w2.frozen? ⟨b, 1, none⟩ = false := Lib.frozen_of_heap hb2 1
  obtain ⟨g, cap, rfl⟩ : ∃ g cap, v' = .slice (some ⟨g, 0, none⟩) (bs.length + 1) cap := by
    rcases hown'.2 with ⟨_, h0⟩ | ⟨g, cap, cur, hv, _⟩
    · omega
    · exact ⟨g, cap, hv⟩
  go_wp2
  go_ret
  refine ⟨rfl, ?_, ?_⟩
  · exact Lib.BuilderAt.put (T := 53) (e := 5) hB hb2 (bs' := bs ++ [.int .u8 c]) (by simpa using hown') (by decide)
  · exact ((hb1.alloc (by have := hb1.size; omega) _).grown hgrow (by have := hb1.size; simp; omega) (fun k hk => (hown.lt k hk).1)).setCell (p := ⟨b, 1, none⟩) hB _
end Go.Proofs.Ytholgbdfflabhaa.Giv
end
section
namespace Go.Proofs.Ytholgbdfflabhaa.Giv
open Go.RowKit Go.Proofs.YtholgbdfflabhaaW.PrintWords Go.Proofs.YtholgbdfflabhaaW.PrintLast Go.Proofs.YtholgbdfflabhaaW.PrintMore Go.Proofs.Ytholgbdfflabhaa.PTk
open Go.Proofs.Ytholgbdfflabhaa.Opn Go.BigFrame
theorem lt0_ {T e : TypeId} {B b : Nat} {l : List Value} {w : World} (h : Lib.IsBuilder T e B b l w) : b < w.heap.size := by
  rcases h with h | h
  · exact h.lt
  · exact h.lt
theorem _root_.Go.Lib.IsBuilder.lt0 {T e : TypeId} {B b : Nat} {l : List Value} {w : World} (h : Lib.IsBuilder T e B b l w) : b < w.heap.size := lt0_ h
/-- What an identifier means, and where it ends. -/
def identF : Nat → ByteArray → Nat → List UInt8 → Option (List UInt8 × Nat)
  | 0, _, _, _ => none
  | k + 1, s, i, acc => (isF token_lexer_ident_1.f s i).bind fun a => if a = true then (if i < s.size then (if acc.length ≤ 10000000 then identF k s (i + 1) (acc ++ [byteAt s i]) else none) else none)
    else ((escF k s i).bind fun e => if e = true then ((token_Hex.f k s (i : Int)).bind fun t => if 0 ≤ t.2 then (if i + t.2.toNat ≤ s.size then (if acc.length + t.1.size ≤ 10000000 then identF k s (i + t.2.toNat) (acc ++ t.1.data.toList) else none) else none) else none) else some (acc, i))
theorem identF.mono : ∀ k s i acc, LeO (identF k s i acc) (identF (k + 1) s i acc)
  | 0, s, i, acc => LeO.none _
  | k + 1, s, i, acc => by
    rw [identF, identF]
    repeat' first
      | exact identF.mono k _ _ _
      | (with_reducible exact escF.mono _ _ _)
      | (with_reducible exact token_Hex.mono _ _ _)
      | (with_reducible exact LeO.refl _)
      | (with_reducible exact LeO.none _)
      | (with_reducible refine LeO.ite ?_ ?_)
      | (with_reducible refine LeO.bind ?_ (fun _ => ?_))
def lexer_ident.T5 : Bool × List (List Nat × List Nat) := (true, [([], []), ([0], [0]), ([1], [1]), ([2], [2]), ([], []), ([4], [4]), ([5], [5]), ([6], [6]), ([3, 7], [3, 7]), ([8], [8])])
def lexer_ident.B5 : List Nat := [0, 1, 3, 7, 0, 16, 48, 112, 255, 511]
theorem lexer_ident.tab5 : rtab .any (opsOf Try.f18 5) = lexer_ident.T5 := by kernel_rfl
theorem lexer_ident.bits5 : waitsOk lexer_ident.T5.2 lexer_ident.B5 = true := by kernel_rfl
def lexer_ident.T8 : Bool × List (List Nat × List Nat) := (true, [([], []), ([0], [0]), ([1], [1]), ([2], [2]), ([], []), ([4], [4]), ([5], [5]), ([6], [6]), ([3, 7], [3, 7]), ([8], [8]), ([9], [9]), ([9], [9]), ([10, 8, 0, 1, 2, 3, 4, 5, 6, 7, 8, 9, 10], [10]), ([11, 12, 0, 1, 2, 3, 4, 5, 6, 7, 8, 9, 10, 11, 12], [11])])
def lexer_ident.B8 : List Nat := [0, 1, 3, 7, 0, 16, 48, 112, 255, 511, 1023, 1023, 2047, 8191]
theorem lexer_ident.tab8 : rtab .any (opsOf Try.f18 8) = lexer_ident.T8 := by kernel_rfl
theorem lexer_ident.bits8 : waitsOk lexer_ident.T8.2 lexer_ident.B8 = true := by kernel_rfl
set_option maxHeartbeats 8000000 in
set_option maxRecDepth 100000 in
theorem ident_calls (k : Nat) (s : ByteArray) (g i j : Nat) (l : List UInt8) (hs : s.size ≤ 140737488351232) (hi : i ≤ s.size) (w : World) (h : Lx w g s i) (hf : identF k s i [] = some (l, j)) :
    Calls Try.prog 18 #[.pointer (some ⟨g, 0, none⟩)] w fun e w' => e = .returned (.string ⟨l.toArray⟩) ∧ Lx w' g s j ∧ Lk g w w' := by
  have hu := Try.underlying37
  have HS := Aside0.mk hs
  have HF := Aside0.mk hf
  have H1 := Aside0.mk h
  have HI := Aside0.mk hi
  have hg := (Array.getElem?_eq_some_iff.1 h).1
  have HG := Aside0.mk hg
  have hfr := Lib.fresh_isBuilder 53 5 w
  have HFR := Aside0.mk hfr
  clear hf h hs hi hg hfr
  go_enter Try.func18, Try.ntmps18
  go_wp2
  go_loopg [] k (fun kq wr => ∃ (i : Nat) (acc : List UInt8), Aside0 (i ≤ s.size) ∧ Aside0 (identF kq s i acc = some (l, j)) ∧ Aside0 (Lx wr g s i) ∧ Aside0 (Lk g w wr) ∧ Aside0 (Lib.IsBuilder 53 5 w.heap.size w.heap.size (Lib.byteCells acc) wr))
  case atStart => exact ⟨i, [], HI, HF, ⟨Lx.below H1.out ((Below.refl _ _).alloc (Nat.le_refl _) _)⟩, ⟨Lk.of_below ((Below.refl _ _).alloc (Nat.le_refl _) _)⟩, HFR⟩
  case round =>
    clear HF H1 HI HFR
    obtain ⟨i, acc, HI, HF, HX, HK, HD⟩ := hrel
    cases gk with
    | zero => exact absurd HF.out (by simp [identF])
    | succ k2 =>
      have hf := HF.out
      have hi := HI.out
      have hs := HS.out
      have HJ := Aside0.mk (show i ≤ 140737488351300 by omega)
      have HW0 := Aside0.mk (show IntKind.i64.wrap (i : Int) = (i : Int) from wrapE i 0 (by omega))
      clear HF
      rw [identF] at hf
      obtain ⟨a, ha, hf⟩ := Option.bind_eq_some_iff.mp hf
      have A1 := Aside0.mk ha
      clear ha
      cases a
      · rw [if_neg (by decide)] at hf
        obtain ⟨e, he, hf⟩ := Option.bind_eq_some_iff.mp hf
        have A2 := Aside0.mk he
        clear he
        cases e
        · rw [if_neg (by decide)] at hf
          obtain ⟨rfl, rfl⟩ := Prod.mk.inj (Option.some.inj hf)
          clear hf hi hs
          go_wp2_with (first | (go_at_call 15; with_reducible refine (is_inner0 s g i i HS.out HW0.out _ _ ?lx A1.out).mono ?_; (case lx => exact (by repeat (first | (with_reducible first | exact HX.out | apply Lx.drewN | apply Lx.drew)))); rintro e wi ⟨rfl, ⟨ni, rfl⟩⟩) | (go_at_call 28; with_reducible refine (escape_0 k2 s g i i HS.out HJ.out HW0.out _ _ ?lx A2.out).mono ?_; (case lx => exact (by repeat (first | (with_reducible first | exact HX.out | apply Lx.drewN | apply Lx.drew)))); rintro e wi ⟨rfl, hb⟩; have HX2 := Aside0.mk (Lx.below (by repeat (first | (with_reducible first | exact HX.out | apply Lx.drewN | apply Lx.drew))) hb); have HK2 := Aside0.mk (Lk.call (by repeat (first | (with_reducible first | exact HK.out | apply Lk.drewN | apply Lk.drew | apply Lk.set))) hb); have HD2 := Aside0.mk (isB_call (by repeat (first | (with_reducible first | exact HD.out | apply isB_drewN | apply isB_drew))) hb); clear hb; clear HX HK HD; have HX := HX2; have HK := HK2; have HD := HD2; clear HX2 HK2 HD2; have hc0 := HX.out.s; have hc1 := HX.out.i; have hz1 := HX.out.fz) | (go_at_call 34; refine (Try.Builder_String_any w.heap.size w.heap.size acc _ (by repeat (first | (with_reducible first | exact HD.out | apply isB_drewN | apply isB_drew))) (Nat.le_of_lt HD.out.lt0)).mono ?_; rintro e w7 ⟨rfl, hb7⟩; have HX7 := Aside0.mk (Lx.lower (by repeat (first | (with_reducible first | exact HX.out | apply Lx.drewN | apply Lx.drew))) hb7 HG.out); have HK7 := Aside0.mk (Lk.lower (by repeat (first | (with_reducible first | exact HK.out | apply Lk.drewN | apply Lk.drew | apply Lk.set))) hb7 (Nat.le_refl _)); clear hb7))
          go_ret
          exact ⟨rfl, HX7.out, HK7.out⟩
        · rw [if_pos rfl] at hf
          obtain ⟨⟨x, n⟩, hx, hf⟩ := Option.bind_eq_some_iff.mp hf
          have A3 := Aside0.mk hx
          clear hx
          try dsimp only at hf
          by_cases h1 : 0 ≤ n
          · rw [if_pos h1] at hf
            by_cases h2 : i + n.toNat ≤ s.size
            · rw [if_pos h2] at hf
              by_cases h3 : acc.length + x.size ≤ 10000000
              · rw [if_pos h3] at hf
                have A4 := Aside0.mk hf
                have HI2 := Aside0.mk h2
                have HLEN := Aside0.mk (show (Lib.byteCells acc).length + x.size ≤ 140737488355328 by unfold Lib.byteCells; rw [List.length_map]; omega)
                have hwn : wrap64 ((i : Int) + n) = ((i + n.toNat : Nat) : Int) := by unfold wrap64; omega
                have HWN := Aside0.mk hwn
                clear hf h1 h2 h3 hwn hi hs
                go_wp2_with (first | (go_at_call 15; with_reducible refine (is_inner0 s g i i HS.out HW0.out _ _ ?lx A1.out).mono ?_; (case lx => exact (by repeat (first | (with_reducible first | exact HX.out | apply Lx.drewN | apply Lx.drew)))); rintro e wi ⟨rfl, ⟨ni, rfl⟩⟩) | (go_at_call 28; with_reducible refine (escape_0 k2 s g i i HS.out HJ.out HW0.out _ _ ?lx A2.out).mono ?_; (case lx => exact (by repeat (first | (with_reducible first | exact HX.out | apply Lx.drewN | apply Lx.drew)))); rintro e wi ⟨rfl, hb⟩; have HX2 := Aside0.mk (Lx.below (by repeat (first | (with_reducible first | exact HX.out | apply Lx.drewN | apply Lx.drew))) hb); have HK2 := Aside0.mk (Lk.call (by repeat (first | (with_reducible first | exact HK.out | apply Lk.drewN | apply Lk.drew | apply Lk.set))) hb); have HD2 := Aside0.mk (isB_call (by repeat (first | (with_reducible first | exact HD.out | apply isB_drewN | apply isB_drew))) hb); clear hb; clear HX HK HD; have HX := HX2; have HK := HK2; have HD := HD2; clear HX2 HK2 HD2; have hc0 := HX.out.s; have hc1 := HX.out.i; have hz1 := HX.out.fz))
                have HX4 : Aside0 (Lx (wi).drew g s i) := Aside0.mk (Lx.drew (by repeat (first | (with_reducible first | exact HX.out | apply Lx.drewN | apply Lx.drew))))
                have HK4 : Aside0 (Lk g w (wi).drew) := Aside0.mk (Lk.drew (by repeat (first | (with_reducible first | exact HK.out | apply Lk.drewN | apply Lk.drew | apply Lk.set))))
                have HD4 : Aside0 (Lib.IsBuilder 53 5 w.heap.size w.heap.size (Lib.byteCells acc) (wi).drew) := Aside0.mk (isB_drew (by repeat (first | (with_reducible first | exact HD.out | apply isB_drewN | apply isB_drew))))
                refine start_ (n := 14) (S := (fun w' => w'.cell? ⟨g, 0, none⟩ = some (.string s) ∧ w'.cell? ⟨g, 1, none⟩ = some (.int .i64 (i : Int)))) (ds := []) #[false, false, false, false, false, false, false, false, false, false, false, false, false, false] (by kernel_rfl) rfl rfl ⟨HX4.out.s, HX4.out.i⟩ (fun hHeld => ?_)
                refine with_tabW lexer_ident.tab8 lexer_ident.bits8 (fun HT_ HW_ => ?_)
                generalize (wi).drew = w4 at HX4 HK4 HD4 hHeld ⊢
                refine pus_ 0 (some 33) #[true, false, false, false, false, false, false, false, false, false, false, false, false, false] rfl rfl HT_.out ?_
                refine pus_ 1 (some 34) #[true, true, false, false, false, false, false, false, false, false, false, false, false, false] rfl rfl HT_.out ?_
                refine pus_ 2 (some 35) #[true, true, true, false, false, false, false, false, false, false, false, false, false, false] rfl rfl HT_.out ?_
                refine tas_ 3 (some 36) #[true, true, true, true, false, false, false, false, false, false, false, false, false, false] rfl rfl HT_.out HW_.out hHeld ?_
                refine pus_ 4 (some 37) #[true, true, true, true, true, false, false, false, false, false, false, false, false, false] rfl rfl HT_.out ?_
                refine pus_ 5 (some 38) #[true, true, true, true, true, true, false, false, false, false, false, false, false, false] rfl rfl HT_.out ?_
                refine pus_ 6 (some 39) #[true, true, true, true, true, true, true, false, false, false, false, false, false, false] rfl rfl HT_.out ?_
                refine tas_ 7 (some 40) #[true, true, true, true, true, true, true, true, false, false, false, false, false, false] rfl rfl HT_.out HW_.out hHeld ?_
                refine one_ (i := 8) (N := (some 41)) #[true, true, true, true, true, true, true, true, true, false, false, false, false, false] rfl rfl (one_of HT_.out (by kernel_rfl)) (by decide) (fun K hK => ?_)
                refine goes_ Try.func32 (by kernel_rfl) rfl #[.string s, .int .i64 (i : Int)] (by rfl) rfl rfl goa_ ?_
                with_reducible refine (token_Hex.calls k2 s (i : Int) x n _ A3.out).mono ?_
                rintro e w5 ⟨rfl, hb⟩
                refine ⟨_, rfl, ?_⟩
                have HX5 := Aside0.mk (HX4.out.below hb)
                have HK5 := Aside0.mk (HK4.out.call hb)
                have HD5 := Aside0.mk (isB_call HD4.out hb)
                clear hb
                refine hK.out _ _ ⟨HX5.out.s, HX5.out.i⟩ (fun hHeld => ?_)
                clear hK K
                refine norm_ (a' := ?_) ?_ ?_
                rotate_left
                ·show Act.put _ (some 41) _ = _
                 simp only [Act.put, List.setIfInBounds_toArray, List.set_cons_zero, List.set_cons_succ, i64_w, i32_w]
                 rfl
                refine pus_ 9 (some 32) #[true, true, true, true, true, true, true, true, true, true, false, false, false, false] rfl rfl HT_.out ?_
                refine pus_ 10 (some 42) #[true, true, true, true, true, true, true, true, true, true, true, false, false, false] rfl rfl HT_.out ?_
                refine pus_ 11 (some 43) #[true, true, true, true, true, true, true, true, true, true, true, true, false, false] rfl rfl HT_.out ?_
                refine pus_ 12 (some 5) #[true, true, true, true, true, true, true, true, true, true, true, true, true, false] rfl rfl HT_.out ?_
                refine pus_ 13 (some 6) #[true, true, true, true, true, true, true, true, true, true, true, true, true, true] rfl rfl HT_.out ?_
                refine done_ (done_of HT_.out (by kernel_rfl)) ?_
                clear HX HK HD HX4 HK4 HD4
                have HX := HX5
                have HK := HK5
                have HD := HD5
                clear HX5 HK5 HD5
                have hc0 := HX.out.s
                have hc1 := HX.out.i
                have hz1 := HX.out.fz
                go_wp2_with (first | (go_at_call 33; refine (writeString_calls w.heap.size w.heap.size (Lib.byteCells acc) x _ (by repeat (first | (with_reducible first | exact HD.out | apply isB_drewN | apply isB_drew))) HLEN.out (Nat.le_of_lt HD.out.lt0)).mono ?_; rintro e w7 ⟨rfl, hd7, hb7⟩; have HX2 := Aside0.mk (Lx.lower (by repeat (first | (with_reducible first | exact HX.out | apply Lx.drewN | apply Lx.drew))) hb7 HG.out); have HK2 := Aside0.mk (Lk.lower (by repeat (first | (with_reducible first | exact HK.out | apply Lk.drewN | apply Lk.drew | apply Lk.set))) hb7 (Nat.le_refl _)); have HD2 := Aside0.mk (builtS hd7); clear hd7 hb7; clear HX HK HD; have HX := HX2; have HK := HK2; have HD := HD2; clear HX2 HK2 HD2; have hc0 := HX.out.s; have hc1 := HX.out.i; have hz1 := HX.out.fz))
                have hc0 := HX.out.s
                have hc1 := HX.out.i
                have hz1 := HX.out.fz
                go_wp2
                go_roundg k2
                case measure => omega
                case rel => exact ⟨i + n.toNat, acc ++ x.data.toList, HI2, A4, ⟨Lx.setv (by repeat (first | (with_reducible first | exact HX.out | apply Lx.drewN | apply Lx.drew))) HWN.out⟩, ⟨(by repeat (first | (with_reducible first | exact HK.out | apply Lk.drewN | apply Lk.drew | apply Lk.set)))⟩, ⟨isB_set (by repeat (first | (with_reducible first | exact HD.out | apply isB_drewN | apply isB_drew))) HG.out⟩⟩
              · rw [if_neg h3] at hf
                cases hf
            · rw [if_neg h2] at hf
              cases hf
          · rw [if_neg h1] at hf
            cases hf
      · rw [if_pos rfl] at hf
        by_cases hlt : i < s.size
        · rw [if_pos hlt] at hf
          by_cases h3 : acc.length ≤ 10000000
          · rw [if_pos h3] at hf
            have A4 := Aside0.mk hf
            have HLEN := Aside0.mk (show (Lib.byteCells acc).length + 1 ≤ 140737488355328 by unfold Lib.byteCells; rw [List.length_map]; omega)
            have HI2 := Aside0.mk (show i + 1 ≤ s.size by omega)
            have hw2 : wrap64 ((i : Int) + 1) = ((i + 1 : Nat) : Int) := by unfold wrap64; omega
            have HWN := Aside0.mk (show (i : Int) + 1 = ((i + 1 : Nat) : Int) by omega)
            have q0 : (0 ≤ (i : Int)) = True := eq_true (by omega)
            have q1 : ((i : Int) < (s.size : Int)) = True := eq_true (by omega)
            have q2 : decide ((i : Int) < (s.size : Int)) = true := decide_eq_true (by omega)
            have q3 : decide (i < s.size) = true := decide_eq_true hlt
            have q4 : (i < s.size) = True := eq_true hlt
            have hx : ∀ h : i < s.size, ((s[i].toNat : Nat) : Int) = bt s (i : Nat) := fun h => bt_at s (i : Int) (by simpa using h)
            clear hf h3 hi hs hlt
            go_wp2_with (first | (go_at_call 15; with_reducible refine (is_inner0 s g i i HS.out HW0.out _ _ ?lx A1.out).mono ?_; (case lx => exact (by repeat (first | (with_reducible first | exact HX.out | apply Lx.drewN | apply Lx.drew)))); rintro e wi ⟨rfl, ⟨ni, rfl⟩⟩))
            have HX4 : Aside0 (Lx (wr.drewN ni).drew g s i) := Aside0.mk (Lx.drew (by repeat (first | (with_reducible first | exact HX.out | apply Lx.drewN | apply Lx.drew))))
            have HK4 : Aside0 (Lk g w (wr.drewN ni).drew) := Aside0.mk (Lk.drew (by repeat (first | (with_reducible first | exact HK.out | apply Lk.drewN | apply Lk.drew | apply Lk.set))))
            have HD4 : Aside0 (Lib.IsBuilder 53 5 w.heap.size w.heap.size (Lib.byteCells acc) (wr.drewN ni).drew) := Aside0.mk (isB_drew (by repeat (first | (with_reducible first | exact HD.out | apply isB_drewN | apply isB_drew))))
            refine start_ (n := 10) (S := (fun w' => w'.cell? ⟨g, 0, none⟩ = some (.string s) ∧ w'.cell? ⟨g, 1, none⟩ = some (.int .i64 (i : Int)))) (ds := []) #[false, false, false, false, false, false, false, false, false, false] (by kernel_rfl) rfl rfl ⟨HX4.out.s, HX4.out.i⟩ (fun hHeld => ?_)
            refine with_tabW lexer_ident.tab5 lexer_ident.bits5 (fun HT_ HW_ => ?_)
            generalize (wr.drewN ni).drew = w4 at HX4 HK4 HD4 hHeld ⊢
            refine pus_ 0 (some 12) #[true, false, false, false, false, false, false, false, false, false] rfl rfl HT_.out ?_
            refine pus_ 1 (some 13) #[true, true, false, false, false, false, false, false, false, false] rfl rfl HT_.out ?_
            refine pus_ 2 (some 14) #[true, true, true, false, false, false, false, false, false, false] rfl rfl HT_.out ?_
            refine tas_ 3 (some 15) #[true, true, true, true, false, false, false, false, false, false] rfl rfl HT_.out HW_.out hHeld ?_
            refine pus_ 4 (some 16) #[true, true, true, true, true, false, false, false, false, false] rfl rfl HT_.out ?_
            refine pus_ 5 (some 17) #[true, true, true, true, true, true, false, false, false, false] rfl rfl HT_.out ?_
            refine pus_ 6 (some 18) #[true, true, true, true, true, true, true, false, false, false] rfl rfl HT_.out ?_
            refine tas_ 7 (some 19) #[true, true, true, true, true, true, true, true, false, false] rfl rfl HT_.out HW_.out hHeld ?_
            refine pus_ 8 (some 20) #[true, true, true, true, true, true, true, true, true, false] rfl rfl HT_.out ?_
            refine one_ (i := 9) (N := (some 21)) #[true, true, true, true, true, true, true, true, true, true] rfl rfl (one_of HT_.out (by kernel_rfl)) (by decide) (fun K hK => ?_)
            refine goes_ Try.func31 (by kernel_rfl) rfl #[.pointer (some ⟨w.heap.size, 0, none⟩), .int .u8 (bt s (i : Nat))] (by rfl) rfl rfl goa_ ?_
            refine (writeByte_calls w.heap.size w.heap.size (Lib.byteCells acc) (bt s (i : Nat)) _ HD4.out HLEN.out (Nat.le_of_lt HD4.out.lt0)).mono ?_
            rintro e w5 ⟨rfl, hd5, hb5⟩
            refine ⟨_, rfl, ?_⟩
            have HX5 := Aside0.mk (HX4.out.lower hb5 HG.out)
            have HK5 := Aside0.mk (HK4.out.lower hb5 (Nat.le_refl _))
            have HD5 := Aside0.mk (built1 (c := byteAt s i) (byteAt_val s i).symm hd5)
            clear hd5 hb5
            refine hK.out _ _ ⟨HX5.out.s, HX5.out.i⟩ (fun hHeld => ?_)
            clear hK K
            refine norm_ (a' := ?_) ?_ ?_
            rotate_left
            ·show Act.put _ (some 21) _ = _
             simp only [Act.put, List.setIfInBounds_toArray, List.set_cons_zero, List.set_cons_succ, i64_w, i32_w]
             rfl
            refine done_ (done_of HT_.out (by kernel_rfl)) ?_
            clear HX HK HD HX4 HK4 HD4
            have HX := HX5
            have HK := HK5
            have HD := HD5
            clear HX5 HK5 HD5
            have hc0 := HX.out.s
            have hc1 := HX.out.i
            have hz1 := HX.out.fz
            go_wp2
            go_roundg k2
            case measure => omega
            case rel => exact ⟨i + 1, acc ++ [byteAt s i], HI2, A4, ⟨Lx.setv (by repeat (first | (with_reducible first | exact HX.out | apply Lx.drewN | apply Lx.drew))) (by omega)⟩, ⟨(by repeat (first | (with_reducible first | exact HK.out | apply Lk.drewN | apply Lk.drew | apply Lk.set)))⟩, ⟨isB_set (by repeat (first | (with_reducible first | exact HD.out | apply isB_drewN | apply isB_drew))) HG.out⟩⟩
          · rw [if_neg h3] at hf
            cases hf
        · rw [if_neg hlt] at hf
          cases hf
end Go.Proofs.Ytholgbdfflabhaa.Giv
end
section
namespace Go.Proofs.Ytholgbdfflabhaa.Giv
open Go.RowKit Go.Proofs.YtholgbdfflabhaaW.PrintWords Go.Proofs.YtholgbdfflabhaaW.PrintLast Go.Proofs.YtholgbdfflabhaaW.PrintMore Go.Proofs.Ytholgbdfflabhaa.PTk
open Go.Proofs.Ytholgbdfflabhaa.Opn Go.BigFrame
theorem isB_put {T e : TypeId} {B b g o : Nat} {v : Value} {l : List Value} {w : World} (hg : g < B) (h : Lib.IsBuilder T e B b l w) : Lib.IsBuilder T e B b l (w.setCell ⟨g, o, none⟩ v) := isB_set h hg
/-- What a quoted text means, and where it ends (an escape that is none, a line's end, a byte 0: none). -/
def quotF : Nat → ByteArray → Nat → List UInt8 → Int → Option (List UInt8 × Nat)
  | 0, _, _, _, _ => none
  | k + 1, s, i, acc, e => if i < s.size then (if bt s (i : Nat) = e then some (acc, i + 1) else ((token_feed.f (bt s (i : Nat))).bind fun f => if f = true then none else if bt s (i : Nat) = 0 then none else if bt s (i : Nat) = 92 then
      ((escF k s i).bind fun b => if b = true then ((token_Hex.f k s (i : Int)).bind fun t => if 0 ≤ t.2 then (if i + t.2.toNat ≤ s.size then (if acc.length + t.1.size ≤ 10000000 then quotF k s (i + t.2.toNat) (acc ++ t.1.data.toList) e else none) else none) else none) else none)
      else if acc.length ≤ 10000000 then quotF k s (i + 1) (acc ++ [byteAt s i]) e else none)) else none
theorem quotF.mono : ∀ k s i acc e, LeO (quotF k s i acc e) (quotF (k + 1) s i acc e)
  | 0, s, i, acc, e => LeO.none _
  | k + 1, s, i, acc, e => by
    rw [quotF, quotF]
    repeat' first
      | exact quotF.mono k _ _ _ _
      | (with_reducible exact escF.mono _ _ _)
      | (with_reducible exact token_Hex.mono _ _ _)
      | (with_reducible exact LeO.refl _)
      | (with_reducible exact LeO.none _)
      | (with_reducible refine LeO.ite ?_ ?_)
      | (with_reducible refine LeO.bind ?_ (fun _ => ?_))
def lexer_quoted.T13 : Bool × List (List Nat × List Nat) := (true, [([], []), ([0], [0]), ([1], [1]), ([2], [2]), ([], []), ([4], [4]), ([5], [5]), ([6], [6]), ([3, 7], [3, 7]), ([8], [8]), ([9], [9]), ([9], [9]), ([10, 8, 0, 1, 2, 3, 4, 5, 6, 7, 8, 9, 10], [10]), ([11, 12, 0, 1, 2, 3, 4, 5, 6, 7, 8, 9, 10, 11, 12], [11])])
def lexer_quoted.B13 : List Nat := [0, 1, 3, 7, 0, 16, 48, 112, 255, 511, 1023, 1023, 2047, 8191]
theorem lexer_quoted.tab13 : rtab .any (opsOf Try.f20 13) = lexer_quoted.T13 := by kernel_rfl
theorem lexer_quoted.bits13 : waitsOk lexer_quoted.T13.2 lexer_quoted.B13 = true := by kernel_rfl
end Go.Proofs.Ytholgbdfflabhaa.Giv
end
section
namespace Go.Proofs.Ytholgbdfflabhaa.Giv
open Go.RowKit Go.Proofs.YtholgbdfflabhaaW.PrintWords Go.Proofs.YtholgbdfflabhaaW.PrintLast Go.Proofs.YtholgbdfflabhaaW.PrintMore Go.Proofs.Ytholgbdfflabhaa.PTk
open Go.Proofs.Ytholgbdfflabhaa.Opn Go.BigFrame
/-- What the lexer panics with. -/
def faultV (i : Nat) (e : Int) : Value := .iface 33 (.agg #[.int .i64 (i : Int), .int .i64 e])
theorem fail_calls (g i : Nat) (e : Int) (w : World) :
    Calls Try.prog 10 #[.pointer (some ⟨g, 0, none⟩), .int .i64 (i : Int), .int .i64 e] w fun E w' => E = .panicked [{ v := faultV i e, recovered := false }] ∧ w' = w := by
  have hu := Try.underlying33
  go_enter Try.func10, Try.ntmps10
  go_wp2
  exact ⟨rfl, rfl, rfl⟩
end Go.Proofs.Ytholgbdfflabhaa.Giv
end
section
namespace Go.Proofs.Ytholgbdfflabhaa.Giv
open Go.RowKit Go.Proofs.YtholgbdfflabhaaW.PrintWords Go.Proofs.YtholgbdfflabhaaW.PrintLast Go.Proofs.YtholgbdfflabhaaW.PrintMore Go.Proofs.Ytholgbdfflabhaa.PTk
open Go.Proofs.Ytholgbdfflabhaa.Opn Go.BigFrame
/-- What a quoted text means, and where it ends; or that it is wrong. -/
def quotE : Nat → ByteArray → Nat → List UInt8 → Int → Option (Option (List UInt8 × Nat))
  | 0, _, _, _, _ => none
  | k + 1, s, i, acc, e => if i < s.size then (if bt s (i : Nat) = e then some (some (acc, i + 1)) else ((token_feed.f (bt s (i : Nat))).bind fun f => if f = true then some none else if bt s (i : Nat) = 0 then some none else if bt s (i : Nat) = 92 then
      ((escF k s i).bind fun b => if b = true then ((token_Hex.f k s (i : Int)).bind fun t => if 0 ≤ t.2 then (if i + t.2.toNat ≤ s.size then (if acc.length + t.1.size ≤ 10000000 then quotE k s (i + t.2.toNat) (acc ++ t.1.data.toList) e else none) else none) else none)
        else ((isF token_feed.f s (i + 1)).bind fun f2 => if f2 = true then (if i + 2 ≤ s.size then (if bt s ((i + 1 : Nat) : Int) = 13 then ((isF token_lexer_quoted_1.f s (i + 2)).bind fun n => if n = true then (if i + 3 ≤ s.size then quotE k s (i + 3) acc e else none) else quotE k s (i + 2) acc e) else quotE k s (i + 2) acc e) else none) else some none))
      else if acc.length ≤ 10000000 then quotE k s (i + 1) (acc ++ [byteAt s i]) e else none)) else some none
theorem quotE.mono : ∀ k s i acc e, LeO (quotE k s i acc e) (quotE (k + 1) s i acc e)
  | 0, s, i, acc, e => LeO.none _
  | k + 1, s, i, acc, e => by
    rw [quotE, quotE]
    repeat' first
      | exact quotE.mono k _ _ _ _
      | (with_reducible exact escF.mono _ _ _)
      | (with_reducible exact token_Hex.mono _ _ _)
      | (with_reducible exact LeO.refl _)
      | (with_reducible exact LeO.none _)
      | (with_reducible refine LeO.ite ?_ ?_)
      | (with_reducible refine LeO.bind ?_ (fun _ => ?_))
/-- What comes of a quoted text. -/
inductive QR (g : Nat) (s : ByteArray) (i : Nat) (w : World) : Option (List UInt8 × Nat) → Ending → World → Prop
  | ok {l : List UInt8} {j : Nat} {w' : World} (hx : Lx w' g s j) (hk : Lk g w w') : QR g s i w (some (l, j)) (.returned (.string ⟨l.toArray⟩)) w'
  | no {w' : World} (hk : Lk g w w') : QR g s i w none (.panicked [{ v := faultV i 30, recovered := false }]) w'
set_option maxHeartbeats 8000000 in
set_option maxRecDepth 100000 in
theorem quotedE_calls (k : Nat) (s : ByteArray) (g i : Nat) (r : Option (List UInt8 × Nat)) (hs : s.size ≤ 140737488351232) (hi : i < s.size) (w : World) (h : Lx w g s i) (hf : quotE k s (i + 1) [] (bt s (i : Nat)) = some r) :
    Calls Try.prog 20 #[.pointer (some ⟨g, 0, none⟩)] w fun e w' => QR g s i w r e w' := by
  have hu := Try.underlying37
  have HS := Aside0.mk hs
  have HF := Aside0.mk hf
  have H1 := Aside0.mk h
  have HI := Aside0.mk (show i + 1 ≤ s.size by omega)
  have hg := (Array.getElem?_eq_some_iff.1 h).1
  have HG := Aside0.mk hg
  have hlt := hi
  have hc0 := h.s
  have hc1 := h.i
  have hw2 : wrap64 ((i : Int) + 1) = ((i + 1 : Nat) : Int) := by unfold wrap64; omega
  have q0 : (0 ≤ (i : Int)) = True := eq_true (by omega)
  have q1 : ((i : Int) < (s.size : Int)) = True := eq_true (by omega)
  have q2 : decide ((i : Int) < (s.size : Int)) = true := decide_eq_true (by omega)
  have q3 : decide (i < s.size) = true := decide_eq_true hlt
  have q4 : (i < s.size) = True := eq_true hlt
  have hx : ∀ h : i < s.size, ((s[i].toNat : Nat) : Int) = bt s (i : Nat) := fun h => bt_at s (i : Int) (by simpa using h)
  clear hf h hs hi hg hlt
  go_enter Try.func20, Try.ntmps20
  go_wp2
  refine wp_region_quiet_lit (by kernel_rfl) (by kernel_rfl) ?_
  repeat (go_big_quiet_step (fail))
  refine wpQuiet_nil ?_
  intro _ hw'
  obtain ⟨nq, hw''⟩ := hw'
  subst hw''
  go_wp2_with (first | ((with_reducible refine gate_dst (N := 5) rfl ?_); (try (refine gate_guard (by rfl) ?_; dsimp only)); refine box_event ?hg (N := 5) ?hd (cs := #[.pointer none, .slice none 0 0]) (t := 53) ?hr ?_; (case hd => rfl); (case hg => rfl); (case hr => first | (go_simp; done) | (go_simp; rfl)); intro b5 hg w5 hbox hb; have hg2 : b5 = w.heap.size := hg; subst hg2; have HFR : Aside0 (Lib.IsBuilder 53 5 w.heap.size w.heap.size [] w5) := ⟨Or.inl ⟨Nat.le_refl _, .slice none 0 0, hbox, World.ownsRow_nil _ _ _ _, by simp [Value.ownBlock]⟩⟩; have HXA : Aside0 (Lx w5 g s i) := ⟨Lx.below (W := w.drewN nq) H1.out hb⟩; have HKA : Aside0 (Lk g w w5) := ⟨Lk.call ((Lk.refl g w).drewN nq) hb⟩; clear hg hbox hb hc0 hc1 H1; have hc0 := HXA.out.s; have hc1 := HXA.out.i; have hz1 := HXA.out.fz))
  clear hx
  generalize bt s (i : Nat) = en at HF ⊢
  go_loopg [] k (fun kq wr => ∃ (i2 : Nat) (acc : List UInt8), Aside0 (i2 ≤ s.size) ∧ Aside0 (quotE kq s i2 acc en = some r) ∧ Aside0 (Lx wr g s i2) ∧ Aside0 (Lk g w wr) ∧ Aside0 (Lib.IsBuilder 53 5 w.heap.size w.heap.size (Lib.byteCells acc) wr))
  case atStart => exact ⟨i + 1, [], HI, HF, ⟨Lx.setv HXA.out (by omega)⟩, ⟨Lk.set HKA.out _ _⟩, ⟨isB_set HFR.out HG.out⟩⟩
  case round =>
    clear HF HI HFR HXA HKA hc0 hc1 hz1 q0 q1 q2 q3 q4 hw2
    obtain ⟨i, acc, HI, HF, HX, HK, HD⟩ := hrel
    cases gk with
    | zero => exact absurd HF.out (by simp [quotE])
    | succ k2 =>
      have hf := HF.out
      have hi := HI.out
      have hs := HS.out
      have HJ := Aside0.mk (show i ≤ 140737488351300 by omega)
      have HW0 := Aside0.mk (show IntKind.i64.wrap (i : Int) = (i : Int) from wrapE i 0 (by omega))
      have hc0 := HX.out.s
      have hc1 := HX.out.i
      have hz1 := HX.out.fz
      clear HF
      rw [quotE] at hf
      by_cases hlt : i < s.size
      · rw [if_pos hlt] at hf
        have hw2 : wrap64 ((i : Int) + 1) = ((i + 1 : Nat) : Int) := by unfold wrap64; omega
        have HI2 := Aside0.mk (show i + 1 ≤ s.size by omega)
        have HWN := Aside0.mk (show (i : Int) + 1 = ((i + 1 : Nat) : Int) by omega)
        have q0 : (0 ≤ (i : Int)) = True := eq_true (by omega)
        have q1 : ((i : Int) < (s.size : Int)) = True := eq_true (by omega)
        have q2 : decide ((i : Int) < (s.size : Int)) = true := decide_eq_true (by omega)
        have q3 : decide (i < s.size) = true := decide_eq_true hlt
        have q4 : (i < s.size) = True := eq_true hlt
        have hx : ∀ h : i < s.size, ((s[i].toNat : Nat) : Int) = bt s (i : Nat) := fun h => bt_at s (i : Int) (by simpa using h)
        have q7 : decide ((i : Int) ≥ (s.size : Int)) = false := decide_eq_false (by omega)
        have q8 : decide ((s.size : Int) ≤ (i : Int)) = false := decide_eq_false (by omega)
        have q9 : decide (s.size ≤ i) = false := decide_eq_false (by omega)
        by_cases hen : bt s (i : Nat) = en
        · rw [if_pos hen] at hf
          obtain rfl := Option.some.inj hf
          have p1 : (bt s (i : Nat) != en) = false := bne_eq_false_iff_eq.mpr hen
          have p2 : (bt s (i : Nat) == en) = true := beq_iff_eq.mpr hen
          clear hf hi hs hlt hen
          go_wp2
          refine wp_region_quiet_lit (by kernel_rfl) (by kernel_rfl) ?_
          repeat (go_big_quiet_step (fail))
          refine wpQuiet_nil ?_
          intro _ hw'
          obtain ⟨nq, hw''⟩ := hw'
          subst hw''
          go_wp2
          refine wp_region_quiet_lit (by kernel_rfl) (by kernel_rfl) ?_
          repeat (go_big_quiet_step (fail))
          refine wpQuiet_nil ?_
          intro _ hw'
          obtain ⟨nq, hw''⟩ := hw'
          subst hw''
          go_wp2_with (first | (go_at_call 34; refine (Try.Builder_String_any w.heap.size w.heap.size acc _ ?bd ?lt).mono ?_; (case bd => exact (by repeat (first | (with_reducible first | exact HD.out | apply isB_drewN | apply isB_drew | apply isB_put HG.out)))); (case lt => first | exact Nat.le_of_lt HD.out.lt0 | (refine Nat.le_of_lt ?_; have h_ := HD.out.lt0; simpa [World.setCell] using h_)); rintro e w7 ⟨rfl, hb7⟩; have HX7 := Aside0.mk (Lx.lower (i := i + 1) (Lx.setv (by repeat (first | (with_reducible first | exact HX.out | apply Lx.drewN | apply Lx.drew))) (by first | with_reducible rfl | with_reducible exact hw2 | omega)) hb7 HG.out); have HK7 := Aside0.mk (Lk.lower (by repeat (first | (with_reducible first | exact HK.out | apply Lk.drewN | apply Lk.drew | apply Lk.set))) hb7 (Nat.le_refl _)); clear hb7))
          go_ret
          exact .ok HX7.out HK7.out
        · rw [if_neg hen] at hf
          have p1 : (bt s (i : Nat) != en) = true := bne_iff_ne.mpr hen
          have p2 : (bt s (i : Nat) == en) = false := beq_eq_false_iff_ne.mpr hen
          obtain ⟨f, hff, hf⟩ := Option.bind_eq_some_iff.mp hf
          have A1 := Aside0.mk hff
          clear hff
          cases f
          · rw [if_neg (by decide)] at hf
            by_cases h0 : bt s (i : Nat) = 0
            · rw [if_pos h0] at hf
              obtain rfl := Option.some.inj hf
              have p3 : (bt s (i : Nat) == 0) = true := beq_iff_eq.mpr h0
              clear hf hi hs hlt hen h0
              go_wp2
              refine wp_region_quiet_lit (by kernel_rfl) (by kernel_rfl) ?_
              repeat (go_big_quiet_step (fail))
              refine wpQuiet_nil ?_
              intro _ hw'
              obtain ⟨nq, hw''⟩ := hw'
              subst hw''
              go_wp2
              refine wp_region_quiet_lit (by kernel_rfl) (by kernel_rfl) ?_
              repeat (go_big_quiet_step (fail))
              refine wpQuiet_nil ?_
              intro _ hw'
              obtain ⟨nq, hw''⟩ := hw'
              subst hw''
              go_wp2_with (first | (go_at_call 22; with_reducible refine (token_feed.calls _ _ _ A1.out).mono ?_; rintro e wf ⟨rfl, ⟨nf, rfl⟩⟩) | (go_at_call 10; with_reducible refine (fail_calls g _ 30 _).mono ?_; rintro e wf ⟨rfl, rfl⟩))
              exact ⟨rfl, QR.no (by repeat (first | (with_reducible first | exact HK.out | apply Lk.drewN | apply Lk.drew | apply Lk.set)))⟩
            · rw [if_neg h0] at hf
              have p3 : (bt s (i : Nat) == 0) = false := beq_eq_false_iff_ne.mpr h0
              by_cases h9 : bt s (i : Nat) = 92
              · rw [if_pos h9] at hf
                have p4 : (bt s (i : Nat) != 92) = false := bne_eq_false_iff_eq.mpr h9
                obtain ⟨e, he, hf⟩ := Option.bind_eq_some_iff.mp hf
                have A2 := Aside0.mk he
                clear he
                cases e
                · rw [if_neg (by decide)] at hf
                  obtain ⟨f2, hf2, hf⟩ := Option.bind_eq_some_iff.mp hf
                  have A5 := Aside0.mk hf2
                  have HW1 := Aside0.mk (show IntKind.i64.wrap ((i : Int) + 1) = ((i + 1 : Nat) : Int) from wrapE i 1 (by omega))
                  cases f2
                  · rw [if_neg (by decide)] at hf
                    obtain rfl := Option.some.inj hf
                    clear hf hf2 hi hs hlt hen h0 h9
                    go_wp2
                    refine wp_region_quiet_lit (by kernel_rfl) (by kernel_rfl) ?_
                    repeat (go_big_quiet_step (fail))
                    refine wpQuiet_nil ?_
                    intro _ hw'
                    obtain ⟨nq, hw''⟩ := hw'
                    subst hw''
                    go_wp2
                    refine wp_region_quiet_lit (by kernel_rfl) (by kernel_rfl) ?_
                    repeat (go_big_quiet_step (fail))
                    refine wpQuiet_nil ?_
                    intro _ hw'
                    obtain ⟨nq, hw''⟩ := hw'
                    subst hw''
                    go_wp2_with (first | (go_at_call 22; with_reducible refine (token_feed.calls _ _ _ A1.out).mono ?_; rintro e wf ⟨rfl, ⟨nf, rfl⟩⟩) | (go_at_call 28; with_reducible refine (escape_0 k2 s g i i HS.out HJ.out HW0.out _ _ ?lx A2.out).mono ?_; (case lx => exact (by repeat (first | (with_reducible first | exact HX.out | apply Lx.drewN | apply Lx.drew)))); rintro e wi ⟨rfl, hb⟩; have HX2 := Aside0.mk (Lx.below (by repeat (first | (with_reducible first | exact HX.out | apply Lx.drewN | apply Lx.drew))) hb); have HK2 := Aside0.mk (Lk.call (by repeat (first | (with_reducible first | exact HK.out | apply Lk.drewN | apply Lk.drew | apply Lk.set))) hb); have HD2 := Aside0.mk (isB_call (by repeat (first | (with_reducible first | exact HD.out | apply isB_drewN | apply isB_drew))) hb); clear hb; clear HX HK HD; have HX := HX2; have HK := HK2; have HD := HD2; clear HX2 HK2 HD2; have hc0 := HX.out.s; have hc1 := HX.out.i; have hz1 := HX.out.fz) | (go_at_call 15; with_reducible refine (is_feed1 s g i (i + 1) HS.out HW1.out _ _ ?lx A5.out).mono ?_; (case lx => exact (by repeat (first | (with_reducible first | exact HX.out | apply Lx.drewN | apply Lx.drew)))); rintro e wi ⟨rfl, ⟨ni, rfl⟩⟩) | (go_at_call 10; with_reducible refine (fail_calls g _ 30 _).mono ?_; rintro e wf ⟨rfl, rfl⟩))
                    exact ⟨rfl, QR.no (by repeat (first | (with_reducible first | exact HK.out | apply Lk.drewN | apply Lk.drew | apply Lk.set)))⟩
                  · rw [if_pos rfl] at hf
                    by_cases h2 : i + 2 ≤ s.size
                    · rw [if_pos h2] at hf
                      obtain ⟨j1, e1⟩ : ∃ j1, j1 = i + 1 := ⟨_, rfl⟩
                      obtain ⟨j2, e2⟩ : ∃ j2, j2 = i + 2 := ⟨_, rfl⟩
                      obtain ⟨j3, e3⟩ : ∃ j3, j3 = i + 3 := ⟨_, rfl⟩
                      rw [← e1, ← e2, ← e3] at hf
                      rw [← e2] at h2
                      have HWN3 := Aside0.mk (show wrap64 ((i : Int) + 2) = (j2 : Int) by unfold wrap64; omega)
                      have u1 : wrap64 ((j2 : Int) - 1) = (j1 : Int) := by unfold wrap64; omega
                      have v0 : (0 ≤ (j1 : Int)) = True := eq_true (by omega)
                      have v1 : ((j1 : Int) < (s.size : Int)) = True := eq_true (by omega)
                      have v2 : decide ((j1 : Int) < (s.size : Int)) = true := decide_eq_true (by omega)
                      have v3 : decide (j1 < s.size) = true := decide_eq_true (by omega)
                      have v4 : (j1 < s.size) = True := eq_true (by omega)
                      have hx2 : ∀ h : j1 < s.size, ((s[j1].toNat : Nat) : Int) = bt s (j1 : Int) := fun h => bt_at s (j1 : Int) (by simpa using h)
                      have HI3 := Aside0.mk h2
                      by_cases h13 : bt s (j1 : Int) = 13
                      · rw [if_pos h13] at hf
                        have p6 : (bt s (j1 : Int) == 13) = true := beq_iff_eq.mpr h13
                        obtain ⟨n2, hn2, hf⟩ := Option.bind_eq_some_iff.mp hf
                        have A6 := Aside0.mk hn2
                        have HW2 := Aside0.mk (show IntKind.i64.wrap (j2 : Int) = (j2 : Int) from wrapE j2 0 (by omega))
                        cases n2
                        · rw [if_neg (by decide)] at hf
                          have A4 := Aside0.mk hf
                          clear hf hf2 hn2 hi hs hlt hen h0 h9 h2 h13 e1 e2 e3
                          go_wp2
                          refine wp_region_quiet_lit (by kernel_rfl) (by kernel_rfl) ?_
                          repeat (go_big_quiet_step (fail))
                          refine wpQuiet_nil ?_
                          intro _ hw'
                          obtain ⟨nq, hw''⟩ := hw'
                          subst hw''
                          go_wp2
                          refine wp_region_quiet_lit (by kernel_rfl) (by kernel_rfl) ?_
                          repeat (go_big_quiet_step (fail))
                          refine wpQuiet_nil ?_
                          intro _ hw'
                          obtain ⟨nq, hw''⟩ := hw'
                          subst hw''
                          go_wp2_with (first | (go_at_call 22; with_reducible refine (token_feed.calls _ _ _ A1.out).mono ?_; rintro e wf ⟨rfl, ⟨nf, rfl⟩⟩) | (go_at_call 28; with_reducible refine (escape_0 k2 s g i i HS.out HJ.out HW0.out _ _ ?lx A2.out).mono ?_; (case lx => exact (by repeat (first | (with_reducible first | exact HX.out | apply Lx.drewN | apply Lx.drew)))); rintro e wi ⟨rfl, hb⟩; have HX2 := Aside0.mk (Lx.below (by repeat (first | (with_reducible first | exact HX.out | apply Lx.drewN | apply Lx.drew))) hb); have HK2 := Aside0.mk (Lk.call (by repeat (first | (with_reducible first | exact HK.out | apply Lk.drewN | apply Lk.drew | apply Lk.set))) hb); have HD2 := Aside0.mk (isB_call (by repeat (first | (with_reducible first | exact HD.out | apply isB_drewN | apply isB_drew))) hb); clear hb; clear HX HK HD; have HX := HX2; have HK := HK2; have HD := HD2; clear HX2 HK2 HD2; have hc0 := HX.out.s; have hc1 := HX.out.i; have hz1 := HX.out.fz) | (go_at_call 15; with_reducible refine (is_feed1 s g i (i + 1) HS.out HW1.out _ _ ?lx A5.out).mono ?_; (case lx => exact (by repeat (first | (with_reducible first | exact HX.out | apply Lx.drewN | apply Lx.drew)))); rintro e wi ⟨rfl, ⟨ni, rfl⟩⟩))
                          have HX2 : Aside0 (Lx ((wi.drewN ni).setCell ⟨g, 1, none⟩ (.int .i64 (wrap64 ((i : Int) + 2)))) g s j2) := ⟨Lx.setv (by repeat (first | (with_reducible first | exact HX.out | apply Lx.drewN | apply Lx.drew))) HWN3.out⟩
                          have HK2 : Aside0 (Lk g w ((wi.drewN ni).setCell ⟨g, 1, none⟩ (.int .i64 (wrap64 ((i : Int) + 2))))) := ⟨Lk.set (by repeat (first | (with_reducible first | exact HK.out | apply Lk.drewN | apply Lk.drew | apply Lk.set))) _ _⟩
                          have HD2 : Aside0 (Lib.IsBuilder 53 5 w.heap.size w.heap.size (Lib.byteCells acc) ((wi.drewN ni).setCell ⟨g, 1, none⟩ (.int .i64 (wrap64 ((i : Int) + 2))))) := ⟨isB_set (by repeat (first | (with_reducible first | exact HD.out | apply isB_drewN | apply isB_drew))) HG.out⟩
                          clear HX HK HD hc0 hc1 hz1 q0 q1 q2 q3 q4 hx q7 q8 q9 hw2
                          generalize ((wi.drewN ni).setCell ⟨g, 1, none⟩ (.int .i64 (wrap64 ((i : Int) + 2)))) = w6 at HX2 HK2 HD2 ⊢
                          have HX := HX2; have HK := HK2; have HD := HD2; clear HX2 HK2 HD2; have hc0 := HX.out.s; have hc1 := HX.out.i; have hz1 := HX.out.fz
                          refine wp_region_quiet_lit (by kernel_rfl) (by kernel_rfl) ?_
                          repeat (go_big_quiet_step (fail))
                          refine qcall (some 134) rfl Try.func15 (by kernel_rfl) rfl #[.pointer (some ⟨g, 0, none⟩), .int .i64 0, .func (.func 35) #[] #[]] (.bool false) (by rfl) rfl goa_ (fun w1 hw1 => ?_) ?_
                          · obtain ⟨n1, rfl⟩ := hw1
                            refine (is_nl0 s g j2 j2 HS.out HW2.out _ _ ?lx A6.out).mono ?_
                            case lx => exact HX.out.drewN _
                            rintro e w2 ⟨rfl, ⟨m1, rfl⟩⟩
                            exact ⟨rfl, ⟨n1 + m1, by simp [World.drewN, Nat.add_assoc]⟩⟩
                          simp only [Act.put, List.setIfInBounds_toArray, List.set_cons_zero, List.set_cons_succ]
                          repeat (go_big_quiet_step (fail))
                          refine wpQuiet_nil ?_
                          intro _ hw'
                          obtain ⟨nq, hw''⟩ := hw'
                          subst hw''
                          go_wp2
                          go_roundg k2
                          case measure => omega
                          case rel => exact ⟨j2, acc, HI3, A4, ⟨(by repeat (first | (with_reducible first | exact HX.out | apply Lx.drewN | apply Lx.drew)))⟩, ⟨(by repeat (first | (with_reducible first | exact HK.out | apply Lk.drewN | apply Lk.drew | apply Lk.set)))⟩, ⟨(by repeat (first | (with_reducible first | exact HD.out | apply isB_drewN | apply isB_drew)))⟩⟩
                        · rw [if_pos rfl] at hf
                          by_cases h3 : j3 ≤ s.size
                          · rw [if_pos h3] at hf
                            have A4 := Aside0.mk hf
                            have HI4 := Aside0.mk h3
                            have HWN4 := Aside0.mk (show wrap64 ((j2 : Int) + 1) = (j3 : Int) by unfold wrap64; omega)
                            clear hf hf2 hn2 hi hs hlt hen h0 h9 h2 h13 h3 e1 e2 e3
                            go_wp2
                            refine wp_region_quiet_lit (by kernel_rfl) (by kernel_rfl) ?_
                            repeat (go_big_quiet_step (fail))
                            refine wpQuiet_nil ?_
                            intro _ hw'
                            obtain ⟨nq, hw''⟩ := hw'
                            subst hw''
                            go_wp2
                            refine wp_region_quiet_lit (by kernel_rfl) (by kernel_rfl) ?_
                            repeat (go_big_quiet_step (fail))
                            refine wpQuiet_nil ?_
                            intro _ hw'
                            obtain ⟨nq, hw''⟩ := hw'
                            subst hw''
                            go_wp2_with (first | (go_at_call 22; with_reducible refine (token_feed.calls _ _ _ A1.out).mono ?_; rintro e wf ⟨rfl, ⟨nf, rfl⟩⟩) | (go_at_call 28; with_reducible refine (escape_0 k2 s g i i HS.out HJ.out HW0.out _ _ ?lx A2.out).mono ?_; (case lx => exact (by repeat (first | (with_reducible first | exact HX.out | apply Lx.drewN | apply Lx.drew)))); rintro e wi ⟨rfl, hb⟩; have HX2 := Aside0.mk (Lx.below (by repeat (first | (with_reducible first | exact HX.out | apply Lx.drewN | apply Lx.drew))) hb); have HK2 := Aside0.mk (Lk.call (by repeat (first | (with_reducible first | exact HK.out | apply Lk.drewN | apply Lk.drew | apply Lk.set))) hb); have HD2 := Aside0.mk (isB_call (by repeat (first | (with_reducible first | exact HD.out | apply isB_drewN | apply isB_drew))) hb); clear hb; clear HX HK HD; have HX := HX2; have HK := HK2; have HD := HD2; clear HX2 HK2 HD2; have hc0 := HX.out.s; have hc1 := HX.out.i; have hz1 := HX.out.fz) | (go_at_call 15; with_reducible refine (is_feed1 s g i (i + 1) HS.out HW1.out _ _ ?lx A5.out).mono ?_; (case lx => exact (by repeat (first | (with_reducible first | exact HX.out | apply Lx.drewN | apply Lx.drew)))); rintro e wi ⟨rfl, ⟨ni, rfl⟩⟩))
                            have HX2 : Aside0 (Lx ((wi.drewN ni).setCell ⟨g, 1, none⟩ (.int .i64 (wrap64 ((i : Int) + 2)))) g s j2) := ⟨Lx.setv (by repeat (first | (with_reducible first | exact HX.out | apply Lx.drewN | apply Lx.drew))) HWN3.out⟩
                            have HK2 : Aside0 (Lk g w ((wi.drewN ni).setCell ⟨g, 1, none⟩ (.int .i64 (wrap64 ((i : Int) + 2))))) := ⟨Lk.set (by repeat (first | (with_reducible first | exact HK.out | apply Lk.drewN | apply Lk.drew | apply Lk.set))) _ _⟩
                            have HD2 : Aside0 (Lib.IsBuilder 53 5 w.heap.size w.heap.size (Lib.byteCells acc) ((wi.drewN ni).setCell ⟨g, 1, none⟩ (.int .i64 (wrap64 ((i : Int) + 2))))) := ⟨isB_set (by repeat (first | (with_reducible first | exact HD.out | apply isB_drewN | apply isB_drew))) HG.out⟩
                            clear HX HK HD hc0 hc1 hz1 q0 q1 q2 q3 q4 hx q7 q8 q9 hw2
                            generalize ((wi.drewN ni).setCell ⟨g, 1, none⟩ (.int .i64 (wrap64 ((i : Int) + 2)))) = w6 at HX2 HK2 HD2 ⊢
                            have HX := HX2; have HK := HK2; have HD := HD2; clear HX2 HK2 HD2; have hc0 := HX.out.s; have hc1 := HX.out.i; have hz1 := HX.out.fz
                            refine wp_region_quiet_lit (by kernel_rfl) (by kernel_rfl) ?_
                            repeat (go_big_quiet_step (fail))
                            refine qcall (some 134) rfl Try.func15 (by kernel_rfl) rfl #[.pointer (some ⟨g, 0, none⟩), .int .i64 0, .func (.func 35) #[] #[]] (.bool true) (by rfl) rfl goa_ (fun w1 hw1 => ?_) ?_
                            · obtain ⟨n1, rfl⟩ := hw1
                              refine (is_nl0 s g j2 j2 HS.out HW2.out _ _ ?lx A6.out).mono ?_
                              case lx => exact HX.out.drewN _
                              rintro e w2 ⟨rfl, ⟨m1, rfl⟩⟩
                              exact ⟨rfl, ⟨n1 + m1, by simp [World.drewN, Nat.add_assoc]⟩⟩
                            simp only [Act.put, List.setIfInBounds_toArray, List.set_cons_zero, List.set_cons_succ]
                            repeat (go_big_quiet_step (fail))
                            refine wpQuiet_nil ?_
                            intro _ hw'
                            obtain ⟨nq, hw''⟩ := hw'
                            subst hw''
                            go_wp2
                            go_roundg k2
                            case measure => omega
                            case rel => exact ⟨j3, acc, HI4, A4, ⟨Lx.setv (by repeat (first | (with_reducible first | exact HX.out | apply Lx.drewN | apply Lx.drew))) HWN4.out⟩, ⟨(by repeat (first | (with_reducible first | exact HK.out | apply Lk.drewN | apply Lk.drew | apply Lk.set)))⟩, ⟨isB_set (by repeat (first | (with_reducible first | exact HD.out | apply isB_drewN | apply isB_drew))) HG.out⟩⟩
                          · rw [if_neg h3] at hf
                            cases hf
                      · rw [if_neg h13] at hf
                        have p6 : (bt s (j1 : Int) == 13) = false := beq_eq_false_iff_ne.mpr h13
                        have A4 := Aside0.mk hf
                        clear hf hf2 hi hs hlt hen h0 h9 h2 h13 e1 e2 e3
                        go_wp2
                        refine wp_region_quiet_lit (by kernel_rfl) (by kernel_rfl) ?_
                        repeat (go_big_quiet_step (fail))
                        refine wpQuiet_nil ?_
                        intro _ hw'
                        obtain ⟨nq, hw''⟩ := hw'
                        subst hw''
                        go_wp2
                        refine wp_region_quiet_lit (by kernel_rfl) (by kernel_rfl) ?_
                        repeat (go_big_quiet_step (fail))
                        refine wpQuiet_nil ?_
                        intro _ hw'
                        obtain ⟨nq, hw''⟩ := hw'
                        subst hw''
                        go_wp2_with (first | (go_at_call 22; with_reducible refine (token_feed.calls _ _ _ A1.out).mono ?_; rintro e wf ⟨rfl, ⟨nf, rfl⟩⟩) | (go_at_call 28; with_reducible refine (escape_0 k2 s g i i HS.out HJ.out HW0.out _ _ ?lx A2.out).mono ?_; (case lx => exact (by repeat (first | (with_reducible first | exact HX.out | apply Lx.drewN | apply Lx.drew)))); rintro e wi ⟨rfl, hb⟩; have HX2 := Aside0.mk (Lx.below (by repeat (first | (with_reducible first | exact HX.out | apply Lx.drewN | apply Lx.drew))) hb); have HK2 := Aside0.mk (Lk.call (by repeat (first | (with_reducible first | exact HK.out | apply Lk.drewN | apply Lk.drew | apply Lk.set))) hb); have HD2 := Aside0.mk (isB_call (by repeat (first | (with_reducible first | exact HD.out | apply isB_drewN | apply isB_drew))) hb); clear hb; clear HX HK HD; have HX := HX2; have HK := HK2; have HD := HD2; clear HX2 HK2 HD2; have hc0 := HX.out.s; have hc1 := HX.out.i; have hz1 := HX.out.fz) | (go_at_call 15; with_reducible refine (is_feed1 s g i (i + 1) HS.out HW1.out _ _ ?lx A5.out).mono ?_; (case lx => exact (by repeat (first | (with_reducible first | exact HX.out | apply Lx.drewN | apply Lx.drew)))); rintro e wi ⟨rfl, ⟨ni, rfl⟩⟩))
                        have HX2 : Aside0 (Lx ((wi.drewN ni).setCell ⟨g, 1, none⟩ (.int .i64 (wrap64 ((i : Int) + 2)))) g s j2) := ⟨Lx.setv (by repeat (first | (with_reducible first | exact HX.out | apply Lx.drewN | apply Lx.drew))) HWN3.out⟩
                        have HK2 : Aside0 (Lk g w ((wi.drewN ni).setCell ⟨g, 1, none⟩ (.int .i64 (wrap64 ((i : Int) + 2))))) := ⟨Lk.set (by repeat (first | (with_reducible first | exact HK.out | apply Lk.drewN | apply Lk.drew | apply Lk.set))) _ _⟩
                        have HD2 : Aside0 (Lib.IsBuilder 53 5 w.heap.size w.heap.size (Lib.byteCells acc) ((wi.drewN ni).setCell ⟨g, 1, none⟩ (.int .i64 (wrap64 ((i : Int) + 2))))) := ⟨isB_set (by repeat (first | (with_reducible first | exact HD.out | apply isB_drewN | apply isB_drew))) HG.out⟩
                        clear HX HK HD hc0 hc1 hz1 q0 q1 q2 q3 q4 hx q7 q8 q9 hw2
                        generalize ((wi.drewN ni).setCell ⟨g, 1, none⟩ (.int .i64 (wrap64 ((i : Int) + 2)))) = w6 at HX2 HK2 HD2 ⊢
                        have HX := HX2; have HK := HK2; have HD := HD2; clear HX2 HK2 HD2; have hc0 := HX.out.s; have hc1 := HX.out.i; have hz1 := HX.out.fz
                        refine wp_region_quiet_lit (by kernel_rfl) (by kernel_rfl) ?_
                        repeat (go_big_quiet_step (fail))
                        refine wpQuiet_nil ?_
                        intro _ hw'
                        obtain ⟨nq, hw''⟩ := hw'
                        subst hw''
                        go_wp2
                        go_roundg k2
                        case measure => omega
                        case rel => exact ⟨j2, acc, HI3, A4, ⟨(by repeat (first | (with_reducible first | exact HX.out | apply Lx.drewN | apply Lx.drew)))⟩, ⟨(by repeat (first | (with_reducible first | exact HK.out | apply Lk.drewN | apply Lk.drew | apply Lk.set)))⟩, ⟨(by repeat (first | (with_reducible first | exact HD.out | apply isB_drewN | apply isB_drew)))⟩⟩
                    · rw [if_neg h2] at hf
                      cases hf
                · rw [if_pos rfl] at hf
                  obtain ⟨⟨x, n⟩, hxx, hf⟩ := Option.bind_eq_some_iff.mp hf
                  have A3 := Aside0.mk hxx
                  clear hxx
                  try dsimp only at hf
                  by_cases h1 : 0 ≤ n
                  · rw [if_pos h1] at hf
                    by_cases h2 : i + n.toNat ≤ s.size
                    · rw [if_pos h2] at hf
                      by_cases h3 : acc.length + x.size ≤ 10000000
                      · rw [if_pos h3] at hf
                        have A4 := Aside0.mk hf
                        have HI3 := Aside0.mk h2
                        have HLEN := Aside0.mk (show (Lib.byteCells acc).length + x.size ≤ 140737488355328 by unfold Lib.byteCells; rw [List.length_map]; omega)
                        have hwn : wrap64 ((i : Int) + n) = ((i + n.toNat : Nat) : Int) := by unfold wrap64; omega
                        have HWN2 := Aside0.mk hwn
                        clear hf h1 h2 h3 hwn hi hs hlt hen h0 h9
                        go_wp2
                        refine wp_region_quiet_lit (by kernel_rfl) (by kernel_rfl) ?_
                        repeat (go_big_quiet_step (fail))
                        refine wpQuiet_nil ?_
                        intro _ hw'
                        obtain ⟨nq, hw''⟩ := hw'
                        subst hw''
                        go_wp2
                        refine wp_region_quiet_lit (by kernel_rfl) (by kernel_rfl) ?_
                        repeat (go_big_quiet_step (fail))
                        refine wpQuiet_nil ?_
                        intro _ hw'
                        obtain ⟨nq, hw''⟩ := hw'
                        subst hw''
                        go_wp2_with (first | (go_at_call 22; with_reducible refine (token_feed.calls _ _ _ A1.out).mono ?_; rintro e wf ⟨rfl, ⟨nf, rfl⟩⟩) | (go_at_call 28; with_reducible refine (escape_0 k2 s g i i HS.out HJ.out HW0.out _ _ ?lx A2.out).mono ?_; (case lx => exact (by repeat (first | (with_reducible first | exact HX.out | apply Lx.drewN | apply Lx.drew)))); rintro e wi ⟨rfl, hb⟩; have HX2 := Aside0.mk (Lx.below (by repeat (first | (with_reducible first | exact HX.out | apply Lx.drewN | apply Lx.drew))) hb); have HK2 := Aside0.mk (Lk.call (by repeat (first | (with_reducible first | exact HK.out | apply Lk.drewN | apply Lk.drew | apply Lk.set))) hb); have HD2 := Aside0.mk (isB_call (by repeat (first | (with_reducible first | exact HD.out | apply isB_drewN | apply isB_drew))) hb); clear hb; clear HX HK HD; have HX := HX2; have HK := HK2; have HD := HD2; clear HX2 HK2 HD2; have hc0 := HX.out.s; have hc1 := HX.out.i; have hz1 := HX.out.fz))
                        have HX4 : Aside0 (Lx (wi).drew g s i) := Aside0.mk (Lx.drew (by repeat (first | (with_reducible first | exact HX.out | apply Lx.drewN | apply Lx.drew))))
                        have HK4 : Aside0 (Lk g w (wi).drew) := Aside0.mk (Lk.drew (by repeat (first | (with_reducible first | exact HK.out | apply Lk.drewN | apply Lk.drew | apply Lk.set))))
                        have HD4 : Aside0 (Lib.IsBuilder 53 5 w.heap.size w.heap.size (Lib.byteCells acc) (wi).drew) := Aside0.mk (isB_drew (by repeat (first | (with_reducible first | exact HD.out | apply isB_drewN | apply isB_drew))))
                        refine start_ (n := 14) (S := (fun w' => w'.cell? ⟨g, 0, none⟩ = some (.string s) ∧ w'.cell? ⟨g, 1, none⟩ = some (.int .i64 (i : Int)))) (ds := []) #[false, false, false, false, false, false, false, false, false, false, false, false, false, false] (by kernel_rfl) rfl rfl ⟨HX4.out.s, HX4.out.i⟩ (fun hHeld => ?_)
                        refine with_tabW lexer_quoted.tab13 lexer_quoted.bits13 (fun HT_ HW_ => ?_)
                        generalize (wi).drew = w4 at HX4 HK4 HD4 hHeld ⊢
                        refine pus_ 0 (some 90) #[true, false, false, false, false, false, false, false, false, false, false, false, false, false] rfl rfl HT_.out ?_
                        refine pus_ 1 (some 91) #[true, true, false, false, false, false, false, false, false, false, false, false, false, false] rfl rfl HT_.out ?_
                        refine pus_ 2 (some 92) #[true, true, true, false, false, false, false, false, false, false, false, false, false, false] rfl rfl HT_.out ?_
                        refine tas_ 3 (some 93) #[true, true, true, true, false, false, false, false, false, false, false, false, false, false] rfl rfl HT_.out HW_.out hHeld ?_
                        refine pus_ 4 (some 94) #[true, true, true, true, true, false, false, false, false, false, false, false, false, false] rfl rfl HT_.out ?_
                        refine pus_ 5 (some 95) #[true, true, true, true, true, true, false, false, false, false, false, false, false, false] rfl rfl HT_.out ?_
                        refine pus_ 6 (some 96) #[true, true, true, true, true, true, true, false, false, false, false, false, false, false] rfl rfl HT_.out ?_
                        refine tas_ 7 (some 97) #[true, true, true, true, true, true, true, true, false, false, false, false, false, false] rfl rfl HT_.out HW_.out hHeld ?_
                        refine one_ (i := 8) (N := (some 98)) #[true, true, true, true, true, true, true, true, true, false, false, false, false, false] rfl rfl (one_of HT_.out (by kernel_rfl)) (by decide) (fun K hK => ?_)
                        refine goes_ Try.func32 (by kernel_rfl) rfl #[.string s, .int .i64 (i : Int)] (by rfl) rfl rfl goa_ ?_
                        with_reducible refine (token_Hex.calls k2 s (i : Int) x n _ A3.out).mono ?_
                        rintro e w5 ⟨rfl, hb⟩
                        refine ⟨_, rfl, ?_⟩
                        have HX5 := Aside0.mk (HX4.out.below hb)
                        have HK5 := Aside0.mk (HK4.out.call hb)
                        have HD5 := Aside0.mk (isB_call HD4.out hb)
                        clear hb
                        refine hK.out _ _ ⟨HX5.out.s, HX5.out.i⟩ (fun hHeld => ?_)
                        clear hK K
                        refine norm_ (a' := ?_) ?_ ?_
                        rotate_left
                        ·show Act.put _ (some 98) _ = _
                         simp only [Act.put, List.setIfInBounds_toArray, List.set_cons_zero, List.set_cons_succ, i64_w, i32_w]
                         rfl
                        refine pus_ 9 (some 89) #[true, true, true, true, true, true, true, true, true, true, false, false, false, false] rfl rfl HT_.out ?_
                        refine pus_ 10 (some 99) #[true, true, true, true, true, true, true, true, true, true, true, false, false, false] rfl rfl HT_.out ?_
                        refine pus_ 11 (some 100) #[true, true, true, true, true, true, true, true, true, true, true, true, false, false] rfl rfl HT_.out ?_
                        refine pus_ 12 (some 7) #[true, true, true, true, true, true, true, true, true, true, true, true, true, false] rfl rfl HT_.out ?_
                        refine pus_ 13 (some 8) #[true, true, true, true, true, true, true, true, true, true, true, true, true, true] rfl rfl HT_.out ?_
                        refine done_ (done_of HT_.out (by kernel_rfl)) ?_
                        clear HX HK HD HX4 HK4 HD4
                        have HX := HX5
                        have HK := HK5
                        have HD := HD5
                        clear HX5 HK5 HD5
                        have hc0 := HX.out.s
                        have hc1 := HX.out.i
                        have hz1 := HX.out.fz
                        go_wp2_with (first | (go_at_call 33; refine (writeString_calls w.heap.size w.heap.size (Lib.byteCells acc) x _ (by repeat (first | (with_reducible first | exact HD.out | apply isB_drewN | apply isB_drew))) HLEN.out (Nat.le_of_lt HD.out.lt0)).mono ?_; rintro e w7 ⟨rfl, hd7, hb7⟩; have HX2 := Aside0.mk (Lx.lower (by repeat (first | (with_reducible first | exact HX.out | apply Lx.drewN | apply Lx.drew))) hb7 HG.out); have HK2 := Aside0.mk (Lk.lower (by repeat (first | (with_reducible first | exact HK.out | apply Lk.drewN | apply Lk.drew | apply Lk.set))) hb7 (Nat.le_refl _)); have HD2 := Aside0.mk (builtS hd7); clear hd7 hb7; clear HX HK HD; have HX := HX2; have HK := HK2; have HD := HD2; clear HX2 HK2 HD2; have hc0 := HX.out.s; have hc1 := HX.out.i; have hz1 := HX.out.fz))
                        have hc0 := HX.out.s
                        have hc1 := HX.out.i
                        have hz1 := HX.out.fz
                        go_wp2
                        go_roundg k2
                        case measure => omega
                        case rel => exact ⟨i + n.toNat, acc ++ x.data.toList, HI3, A4, ⟨Lx.setv (by repeat (first | (with_reducible first | exact HX.out | apply Lx.drewN | apply Lx.drew))) HWN2.out⟩, ⟨(by repeat (first | (with_reducible first | exact HK.out | apply Lk.drewN | apply Lk.drew | apply Lk.set)))⟩, ⟨isB_set (by repeat (first | (with_reducible first | exact HD.out | apply isB_drewN | apply isB_drew))) HG.out⟩⟩
                      · rw [if_neg h3] at hf
                        cases hf
                    · rw [if_neg h2] at hf
                      cases hf
                  · rw [if_neg h1] at hf
                    cases hf
              · rw [if_neg h9] at hf
                have p4 : (bt s (i : Nat) != 92) = true := bne_iff_ne.mpr h9
                by_cases h3 : acc.length ≤ 10000000
                · rw [if_pos h3] at hf
                  have A4 := Aside0.mk hf
                  have HLEN := Aside0.mk (show (Lib.byteCells acc).length + 1 ≤ 140737488355328 by unfold Lib.byteCells; rw [List.length_map]; omega)
                  clear hf h3 hi hs hlt hen h0 h9
                  go_wp2
                  refine wp_region_quiet_lit (by kernel_rfl) (by kernel_rfl) ?_
                  repeat (go_big_quiet_step (fail))
                  refine wpQuiet_nil ?_
                  intro _ hw'
                  obtain ⟨nq, hw''⟩ := hw'
                  subst hw''
                  go_wp2
                  refine wp_region_quiet_lit (by kernel_rfl) (by kernel_rfl) ?_
                  repeat (go_big_quiet_step (fail))
                  refine wpQuiet_nil ?_
                  intro _ hw'
                  obtain ⟨nq, hw''⟩ := hw'
                  subst hw''
                  go_wp2_with (first | (go_at_call 22; with_reducible refine (token_feed.calls _ _ _ A1.out).mono ?_; rintro e wf ⟨rfl, ⟨nf, rfl⟩⟩) | (go_at_call 31; refine (writeByte_calls w.heap.size w.heap.size (Lib.byteCells acc) (bt s (i : Nat)) _ ?bd HLEN.out ?lt).mono ?_; (case bd => exact (by repeat (first | (with_reducible first | exact HD.out | apply isB_drewN | apply isB_drew)))); (case lt => exact Nat.le_of_lt HD.out.lt0); rintro e w5 ⟨rfl, hd5, hb5⟩; have HX2 := Aside0.mk (Lx.lower (by repeat (first | (with_reducible first | exact HX.out | apply Lx.drewN | apply Lx.drew))) hb5 HG.out); have HK2 := Aside0.mk (Lk.lower (by repeat (first | (with_reducible first | exact HK.out | apply Lk.drewN | apply Lk.drew | apply Lk.set))) hb5 (Nat.le_refl _)); have HD2 := Aside0.mk (built1 (c := byteAt s i) (byteAt_val s i).symm hd5); clear hd5 hb5; clear HX HK HD; have HX := HX2; have HK := HK2; have HD := HD2; clear HX2 HK2 HD2; have hc0 := HX.out.s; have hc1 := HX.out.i; have hz1 := HX.out.fz))
                  have hc0 := HX.out.s
                  have hc1 := HX.out.i
                  have hz1 := HX.out.fz
                  go_wp2
                  go_roundg k2
                  case measure => omega
                  case rel => exact ⟨i + 1, acc ++ [byteAt s i], HI2, A4, ⟨Lx.setv (by repeat (first | (with_reducible first | exact HX.out | apply Lx.drewN | apply Lx.drew))) (by omega)⟩, ⟨(by repeat (first | (with_reducible first | exact HK.out | apply Lk.drewN | apply Lk.drew | apply Lk.set)))⟩, ⟨isB_set (by repeat (first | (with_reducible first | exact HD.out | apply isB_drewN | apply isB_drew))) HG.out⟩⟩
                · rw [if_neg h3] at hf
                  cases hf
          · rw [if_pos rfl] at hf
            obtain rfl := Option.some.inj hf
            clear hf hi hs hlt hen
            go_wp2
            refine wp_region_quiet_lit (by kernel_rfl) (by kernel_rfl) ?_
            repeat (go_big_quiet_step (fail))
            refine wpQuiet_nil ?_
            intro _ hw'
            obtain ⟨nq, hw''⟩ := hw'
            subst hw''
            go_wp2
            refine wp_region_quiet_lit (by kernel_rfl) (by kernel_rfl) ?_
            repeat (go_big_quiet_step (fail))
            refine wpQuiet_nil ?_
            intro _ hw'
            obtain ⟨nq, hw''⟩ := hw'
            subst hw''
            go_wp2_with (first | (go_at_call 22; with_reducible refine (token_feed.calls _ _ _ A1.out).mono ?_; rintro e wf ⟨rfl, ⟨nf, rfl⟩⟩) | (go_at_call 10; with_reducible refine (fail_calls g _ 30 _).mono ?_; rintro e wf ⟨rfl, rfl⟩))
            exact ⟨rfl, QR.no (by repeat (first | (with_reducible first | exact HK.out | apply Lk.drewN | apply Lk.drew | apply Lk.set)))⟩
      · rw [if_neg hlt] at hf
        obtain rfl := Option.some.inj hf
        have q1 : ((i : Int) < (s.size : Int)) = False := eq_false (by omega)
        have q2 : decide ((i : Int) < (s.size : Int)) = false := decide_eq_false (by omega)
        have q3 : decide (i < s.size) = false := decide_eq_false hlt
        have q4 : (i < s.size) = False := eq_false hlt
        have q7 : decide ((i : Int) ≥ (s.size : Int)) = true := decide_eq_true (by omega)
        have q8 : decide ((s.size : Int) ≤ (i : Int)) = true := decide_eq_true (by omega)
        have q9 : decide (s.size ≤ i) = true := decide_eq_true (by omega)
        clear hf hi hs hlt
        go_wp2
        refine wp_region_quiet_lit (by kernel_rfl) (by kernel_rfl) ?_
        repeat (go_big_quiet_step (fail))
        refine wpQuiet_nil ?_
        intro _ hw'
        obtain ⟨nq, hw''⟩ := hw'
        subst hw''
        go_wp2
        refine wp_region_quiet_lit (by kernel_rfl) (by kernel_rfl) ?_
        repeat (go_big_quiet_step (fail))
        refine wpQuiet_nil ?_
        intro _ hw'
        obtain ⟨nq, hw''⟩ := hw'
        subst hw''
        go_wp2_with (first | (go_at_call 10; with_reducible refine (fail_calls g _ 30 _).mono ?_; rintro e wf ⟨rfl, rfl⟩))
        exact ⟨rfl, QR.no (by repeat (first | (with_reducible first | exact HK.out | apply Lk.drewN | apply Lk.drew | apply Lk.set)))⟩
end Go.Proofs.Ytholgbdfflabhaa.Giv
end
section
namespace Go.Proofs.Ytholgbdfflabhaa.Giv
open Go.RowKit Go.Proofs.YtholgbdfflabhaaW.PrintWords Go.Proofs.YtholgbdfflabhaaW.PrintLast Go.Proofs.YtholgbdfflabhaaW.PrintMore Go.Proofs.Ytholgbdfflabhaa.PTk
open Go.Proofs.Ytholgbdfflabhaa.Opn Go.BigFrame
theorem QR.out {g : Nat} {s : ByteArray} {i : Nat} {w : World} {l : List UInt8} {j : Nat} {e : Ending} {w' : World} (h : QR g s i w (some (l, j)) e w') : e = .returned (.string ⟨l.toArray⟩) ∧ Lx w' g s j ∧ Lk g w w' := by
  cases h with
  | ok hx hk => exact ⟨rfl, hx, hk⟩
theorem QR.dead {g : Nat} {s : ByteArray} {i : Nat} {w : World} {e : Ending} {w' : World} (h : QR g s i w none e w') : e = .panicked [{ v := faultV i 30, recovered := false }] ∧ Lk g w w' := by
  cases h with
  | no hk => exact ⟨rfl, hk⟩
/-- A word's block. -/
def Tk (W : World) (b : Nat) (k a : Int) (t n : ByteArray) : Prop := W.heap[b]? = some (.cells #[.int .i64 k, .int .i64 a, .string t, .string n] 29 (0, 0))
section
variable {W W' : World} {b g B : Nat} {k a : Int} {t n : ByteArray}
theorem Tk.c0 (h : Tk W b k a t n) : W.cell? ⟨b, 0, none⟩ = some (.int .i64 k) := (blk_cell h 0).trans rfl
theorem Tk.c1 (h : Tk W b k a t n) : W.cell? ⟨b, 1, none⟩ = some (.int .i64 a) := (blk_cell h 1).trans rfl
theorem Tk.c2 (h : Tk W b k a t n) : W.cell? ⟨b, 2, none⟩ = some (.string t) := (blk_cell h 2).trans rfl
theorem Tk.c3 (h : Tk W b k a t n) : W.cell? ⟨b, 3, none⟩ = some (.string n) := (blk_cell h 3).trans rfl
theorem Tk.fz (h : Tk W b k a t n) (i : Nat) : W.frozen? ⟨b, i, none⟩ = false := blk_frozen h i
theorem Tk.lt (h : Tk W b k a t n) : b < W.heap.size := (Array.getElem?_eq_some_iff.1 h).1
theorem Tk.drewN (h : Tk W b k a t n) (m : Nat) : Tk (W.drewN m) b k a t n := h
theorem Tk.drew (h : Tk W b k a t n) : Tk W.drew b k a t n := h
theorem Tk.call (h : Tk W b k a t n) (hb : Below W.heap.size W W') : Tk W' b k a t n := blk_below h hb
theorem Tk.lk (h : Tk W b k a t n) (hk : Lk g W W') (hg : b ≠ g) : Tk W' b k a t n := hk.at h hg
theorem Tk.far (h : Tk W b k a t n) (hg : b ≠ g) (o : Nat) (v : Value) : Tk (W.setCell ⟨g, o, none⟩ v) b k a t n := blk_far h (show b ≠ g from hg) _
theorem Tk.set0 (h : Tk W b k a t n) (v : Int) : Tk (W.setCell ⟨b, 0, none⟩ (.int .i64 v)) b v a t n := blk_put h 0 _ rfl
theorem Tk.set1 (h : Tk W b k a t n) (v : Int) : Tk (W.setCell ⟨b, 1, none⟩ (.int .i64 v)) b k v t n := blk_put h 1 _ rfl
theorem Tk.set2 (h : Tk W b k a t n) (v : ByteArray) : Tk (W.setCell ⟨b, 2, none⟩ (.string v)) b k a v n := blk_put h 2 _ rfl
theorem Tk.set3 (h : Tk W b k a t n) (v : ByteArray) : Tk (W.setCell ⟨b, 3, none⟩ (.string v)) b k a t v := blk_put h 3 _ rfl
theorem Lx.far {s : ByteArray} {i : Nat} (h : Lx W g s i) (hb : g ≠ b) (o : Nat) (v : Value) : Lx (W.setCell ⟨b, o, none⟩ v) g s i := blk_far h (show g ≠ b from hb) _
theorem tk_far (hg : b ≠ g) {o : Nat} {v : Value} (h : Tk W b k a t n) : Tk (W.setCell ⟨g, o, none⟩ v) b k a t n := h.far hg o v
theorem lx_far {s : ByteArray} {i : Nat} (hb : g ≠ b) {o : Nat} {v : Value} (h : Lx W g s i) : Lx (W.setCell ⟨b, o, none⟩ v) g s i := h.far hb o v
theorem Lk.setN {w : World} (h : Lk g w W) (hb : w.heap.size ≤ b) (o : Nat) (v : Value) : Lk g w (W.setCell ⟨b, o, none⟩ v) :=
  ⟨h.os, h.tape, h.output, by simpa [World.setCell] using h.size, fun j hj hg => (Below.heap_setCell W _ v j (show j ≠ b by omega)).trans (h.heap j hj hg)⟩
theorem lk_setN {w : World} (hb : w.heap.size ≤ b) {o : Nat} {v : Value} (h : Lk g w W) : Lk g w (W.setCell ⟨b, o, none⟩ v) := h.setN hb o v
end
/-- The next word: its kind, its meaning, its number, and where it ends (a string, what is wrong: none). -/
def wordG (k : Nat) (s : ByteArray) (i : Nat) : Option (Int × ByteArray × ByteArray × Nat) := if i < s.size then ((number_Scan.f (s.extract i s.size)).bind fun n =>
    if n > 0 then (if i + n.toNat ≤ s.size then ((isF token_lexer_word_1.f s (i + n.toNat)).bind fun p => if p = true then some (4, ⟨#[]⟩, s.extract i (i + n.toNat), i + n.toNat + 1)
      else ((begF k s (i + n.toNat)).bind fun b => if b = true then ((identF k s (i + n.toNat) []).bind fun t => if t.1.length ≤ 64 ∧ t.2 ≤ s.size then some (5, ⟨t.1.toArray⟩, s.extract i (i + n.toNat), t.2) else none) else some (3, ⟨#[]⟩, s.extract i (i + n.toNat), i + n.toNat))) else none)
    else ((begF k s i).bind fun b => if b = true then ((identF k s i []).bind fun t => if t.1.length ≤ 64 ∧ t.2 ≤ s.size then ((isF token_lexer_word_2.f s t.2).bind fun p => if p = true then some (2, ⟨t.1.toArray⟩, ⟨#[]⟩, t.2 + 1) else some (1, ⟨t.1.toArray⟩, ⟨#[]⟩, t.2)) else none)
      else (if bt s (i : Nat) = 34 ∨ bt s (i : Nat) = 39 then ((quotE k s (i + 1) [] (bt s (i : Nat))).bind fun t => t.bind fun t => if t.1.length ≤ 8192 ∧ t.2 ≤ s.size then some (6, ⟨t.1.toArray⟩, ⟨#[]⟩, t.2) else none) else ((strings_IndexByte.f (⟨#[44, 47, 58, 59, 123, 125, 91, 93, 40, 41]⟩ : ByteArray) (bt s (i : Nat))).bind fun q => if q ≥ 0 then some (7, s.extract i (i + 1), ⟨#[]⟩, i + 1) else none)))) else none
theorem wordG.mono : ∀ s i k, LeO (wordG k s i) (wordG (k + 1) s i) := by
  intro s i k
  unfold wordG
  repeat' first
      | (with_reducible exact begF.mono _ _ _)
      | (with_reducible exact identF.mono _ _ _ _)
      | (with_reducible exact quotE.mono _ _ _ _ _)
      | (with_reducible exact LeO.refl _)
      | (with_reducible exact LeO.none _)
      | (with_reducible refine LeO.ite ?_ ?_)
      | (with_reducible refine LeO.bind ?_ (fun _ => ?_))
def lexer_word.T4 : Bool × List (List Nat × List Nat) := (true, [([], []), ([0], [0]), ([1], [1]), ([2], [2]), ([], []), ([4], [4]), ([5], [5]), ([6], [6]), ([3, 7], [3, 7]), ([8], [8]), ([9, 9, 0, 1, 2, 3, 4, 5, 6, 7, 8, 9], [9])])
def lexer_word.B4 : List Nat := [0, 1, 3, 7, 0, 16, 48, 112, 255, 511, 1023]
theorem lexer_word.tab4 : rtab .any (opsOf Try.f9 4) = lexer_word.T4 := by kernel_rfl
theorem lexer_word.bits4 : waitsOk lexer_word.T4.2 lexer_word.B4 = true := by kernel_rfl
set_option maxHeartbeats 16000000 in
set_option maxRecDepth 100000 in
theorem wordG_calls (k : Nat) (s : ByteArray) (g i j : Nat) (kd : Int) (tx nm : ByteArray) (hs : s.size ≤ 140737488351232) (w : World) (h : Lx w g s i) (hf : wordG k s i = some (kd, tx, nm, j)) :
    Calls Try.prog 9 #[.pointer (some ⟨g, 0, none⟩)] w fun e w' => e = .returned (.agg #[.int .i64 kd, .int .i64 (i : Int), .string tx, .string nm]) ∧ Lx w' g s j ∧ Lk g w w' := by
  have hu := Try.underlying37
  have hut := Try.underlying9
  have huT := Try.underlying29
  have HS := Aside0.mk hs
  have HX := Aside0.mk h
  have HG := Aside0.mk (Array.getElem?_eq_some_iff.1 h).1
  clear h
  unfold wordG at hf
  by_cases hlt : i < s.size
  · rw [if_pos hlt] at hf
    obtain ⟨n, hn, hf⟩ := Option.bind_eq_some_iff.mp hf
    have A1 := Aside0.mk hn
    clear hn
    have q5 : ((i : Int) ≤ (s.size : Int)) = True := eq_true (by omega)
    have q0 : (0 ≤ (i : Int)) = True := eq_true (by omega)
    have q1 : ((i : Int) < (s.size : Int)) = True := eq_true (by omega)
    have q2 : decide ((i : Int) < (s.size : Int)) = true := decide_eq_true (by omega)
    have q3 : decide (i < s.size) = true := decide_eq_true hlt
    have q4 : (i < s.size) = True := eq_true hlt
    have hx : ∀ h : i < s.size, ((s[i].toNat : Nat) : Int) = bt s (i : Nat) := fun h => bt_at s (i : Int) (by simpa using h)
    have HLT := Aside0.mk hlt
    have HWI := Aside0.mk (show IntKind.i64.wrap (i : Int) = (i : Int) from wrapE i 0 (by omega))
    have HII := Aside0.mk (show i ≤ s.size by omega)
    by_cases h1 : n > 0
    · rw [if_pos h1] at hf
      have p1 : decide (n > 0) = true := decide_eq_true h1
      have p2 : decide (0 < n) = true := decide_eq_true h1
      by_cases h2 : i + n.toNat ≤ s.size
      · rw [if_pos h2] at hf
        obtain ⟨m, hm⟩ : ∃ m, i + n.toNat = m := ⟨_, rfl⟩
        have hwn : IntKind.i64.wrap ((i : Int) + n) = (m : Int) := by rw [i64_w]; unfold wrap64; omega
        have hwn2 : wrap64 ((i : Int) + n) = (m : Int) := by unfold wrap64; omega
        have q6 : ((i : Int) ≤ (m : Int)) = True := eq_true (by omega)
        have q7 : ((m : Int) ≤ (s.size : Int)) = True := eq_true (by omega)
        have q8 : (i ≤ m) = True := eq_true (by omega)
        have q9 : (m ≤ s.size) = True := eq_true (by omega)
        have HM := Aside0.mk (show m ≤ s.size by omega)
        rw [hm] at hf
        clear hlt hs h1 h2 hm
        go_enter Try.func9, Try.ntmps9
        go_wp2_with (first | ((with_reducible refine gate_dst (N := 2) rfl ?_); (try (refine gate_guard (by rfl) ?_; dsimp only)); refine box_event ?hg (N := 2) ?hd (cs := #[.int .i64 0, .int .i64 0, .string (⟨#[]⟩ : ByteArray), .string (⟨#[]⟩ : ByteArray)]) (t := 29) ?hr ?_; (case hd => rfl); (case hg => rfl); (case hr => first | (go_simp; done) | (go_simp; rfl)); intro b2 hg w2 hbox hb; have HG2 := Aside0.mk hg; have K2 := Aside0.mk (show Tk w2 b2 0 0 ⟨#[]⟩ ⟨#[]⟩ from hbox); have HX2 := Aside0.mk (Lx.below HX.out hb); have HK2 := Aside0.mk (Lk.of_below (g := g) hb); clear hg hbox hb HX; have HX := HX2; have HK := HK2; clear HX2 HK2; have hc0 := HX.out.s; have hc1 := HX.out.i; have hz1 := HX.out.fz) | ((with_reducible refine gate_dst (N := 3) rfl ?_); (try (refine gate_guard (by rfl) ?_; dsimp only)); refine box_event ?hg (N := 3) ?hd (cs := #[.int .i64 0, .int .i64 0, .string (⟨#[]⟩ : ByteArray), .string (⟨#[]⟩ : ByteArray)]) (t := 29) ?hr ?_; (case hd => rfl); (case hg => rfl); (case hr => first | (go_simp; done) | (go_simp; rfl)); intro b3 hg w3 hbox hb; have HG3 := Aside0.mk hg; have K2L := Aside0.mk (Tk.lt K2.out); have K3 := Aside0.mk (show Tk w3 b3 0 0 ⟨#[]⟩ ⟨#[]⟩ from hbox); have HX2 := Aside0.mk (Lx.below HX.out hb); have HK2 := Aside0.mk (Lk.call HK.out hb); have K22 := Aside0.mk (Tk.call K2.out hb); clear hg hbox hb HX HK K2; have HX := HX2; have HK := HK2; have K2 := K22; clear HX2 HK2 K22; have ht0 := K3.out.c0; have ht1 := K3.out.c1; have ht2 := K3.out.c2; have ht3 := K3.out.c3; have hf0 := K3.out.fz 0; have hf1 := K3.out.fz 1; have hf2 := K3.out.fz 2; have hf3 := K3.out.fz 3))
        have HS2 := Aside0.mk (show w.heap.size ≤ b2 by rw [HG2.out]; exact Nat.le_refl _)
        have HS3 := Aside0.mk (show b2 < b3 by rw [HG3.out]; exact K2L.out)
        have N1 := Aside0.mk (show g ≠ b2 by have := HS2.out; have := HG.out; omega)
        have N2 := Aside0.mk (show g ≠ b3 by have := HS2.out; have := HS3.out; have := HG.out; omega)
        have N3 := Aside0.mk (show b2 ≠ b3 by have := HS3.out; omega)
        have HB3 := Aside0.mk (show w.heap.size ≤ b3 by have := HS2.out; have := HS3.out; omega)
        have HX4 : Aside0 (Lx ((((w3.setCell ⟨b3, 0, none⟩ (.int .i64 0)).setCell ⟨b3, 1, none⟩ (.int .i64 (i : Int))).setCell ⟨b3, 2, none⟩ (.string (⟨#[]⟩ : ByteArray))).setCell ⟨b3, 3, none⟩ (.string (⟨#[]⟩ : ByteArray))) g s i) := ⟨Lx.far (Lx.far (Lx.far (Lx.far HX.out N2.out _ _) N2.out _ _) N2.out _ _) N2.out _ _⟩
        have HK4 : Aside0 (Lk g w ((((w3.setCell ⟨b3, 0, none⟩ (.int .i64 0)).setCell ⟨b3, 1, none⟩ (.int .i64 (i : Int))).setCell ⟨b3, 2, none⟩ (.string (⟨#[]⟩ : ByteArray))).setCell ⟨b3, 3, none⟩ (.string (⟨#[]⟩ : ByteArray)))) := ⟨Lk.setN (Lk.setN (Lk.setN (Lk.setN HK.out HB3.out _ _) HB3.out _ _) HB3.out _ _) HB3.out _ _⟩
        have K24 : Aside0 (Tk ((((w3.setCell ⟨b3, 0, none⟩ (.int .i64 0)).setCell ⟨b3, 1, none⟩ (.int .i64 (i : Int))).setCell ⟨b3, 2, none⟩ (.string (⟨#[]⟩ : ByteArray))).setCell ⟨b3, 3, none⟩ (.string (⟨#[]⟩ : ByteArray))) b2 0 0 ⟨#[]⟩ ⟨#[]⟩) := ⟨Tk.far (Tk.far (Tk.far (Tk.far K2.out N3.out _ _) N3.out _ _) N3.out _ _) N3.out _ _⟩
        have K34 : Aside0 (Tk ((((w3.setCell ⟨b3, 0, none⟩ (.int .i64 0)).setCell ⟨b3, 1, none⟩ (.int .i64 (i : Int))).setCell ⟨b3, 2, none⟩ (.string (⟨#[]⟩ : ByteArray))).setCell ⟨b3, 3, none⟩ (.string (⟨#[]⟩ : ByteArray))) b3 0 (i : Int) ⟨#[]⟩ ⟨#[]⟩) := ⟨Tk.set3 (Tk.set2 (Tk.set1 (Tk.set0 K3.out _) _) _) _⟩
        clear HX HK K2 K3 hc0 hc1 hz1 ht0 ht1 ht2 ht3 hf0 hf1 hf2 hf3
        generalize ((((w3.setCell ⟨b3, 0, none⟩ (.int .i64 0)).setCell ⟨b3, 1, none⟩ (.int .i64 (i : Int))).setCell ⟨b3, 2, none⟩ (.string (⟨#[]⟩ : ByteArray))).setCell ⟨b3, 3, none⟩ (.string (⟨#[]⟩ : ByteArray))) = w4 at HX4 HK4 K24 K34 ⊢
        have hc0 := HX4.out.s
        have hc1 := HX4.out.i
        go_wp2
        refine wp_region_quiet_lit (by kernel_rfl) (by kernel_rfl) ?_
        repeat (go_big_quiet_step (fail))
        refine wpQuiet_nil ?_
        intro _ hw'
        obtain ⟨nq, hw''⟩ := hw'
        subst hw''
        go_wp2
        have HX5 : Aside0 (Lx (w4.drewN nq).drew g s i) := ⟨HX4.out⟩
        have HK5 : Aside0 (Lk g w (w4.drewN nq).drew) := ⟨(HK4.out.drewN nq).drew⟩
        have K25 : Aside0 (Tk (w4.drewN nq).drew b2 0 0 ⟨#[]⟩ ⟨#[]⟩) := ⟨K24.out⟩
        have K35 : Aside0 (Tk (w4.drewN nq).drew b3 0 (i : Int) ⟨#[]⟩ ⟨#[]⟩) := ⟨K34.out⟩
        clear HX4 HK4 K24 K34 hc0 hc1
        refine start_ (n := 11) (S := (fun w' => w'.cell? ⟨g, 0, none⟩ = some (.string s) ∧ w'.cell? ⟨g, 1, none⟩ = some (.int .i64 (i : Int)))) (ds := []) #[false, false, false, false, false, false, false, false, false, false, false] (by kernel_rfl) rfl rfl ⟨HX5.out.s, HX5.out.i⟩ (fun hHeld => ?_)
        refine with_tabW lexer_word.tab4 lexer_word.bits4 (fun HT_ HW_ => ?_)
        generalize (w4.drewN nq).drew = w5 at HX5 HK5 K25 K35 hHeld ⊢
        refine pus_ 0 (some 21) #[true, false, false, false, false, false, false, false, false, false, false] rfl rfl HT_.out ?_
        refine pus_ 1 (some 22) #[true, true, false, false, false, false, false, false, false, false, false] rfl rfl HT_.out ?_
        refine pus_ 2 (some 23) #[true, true, true, false, false, false, false, false, false, false, false] rfl rfl HT_.out ?_
        refine tas_ 3 (some 24) #[true, true, true, true, false, false, false, false, false, false, false] rfl rfl HT_.out HW_.out hHeld ?_
        refine pus_ 4 (some 25) #[true, true, true, true, true, false, false, false, false, false, false] rfl rfl HT_.out ?_
        refine pus_ 5 (some 26) #[true, true, true, true, true, true, false, false, false, false, false] rfl rfl HT_.out ?_
        refine pus_ 6 (some 27) #[true, true, true, true, true, true, true, false, false, false, false] rfl rfl HT_.out ?_
        refine tas_ 7 (some 28) #[true, true, true, true, true, true, true, true, false, false, false] rfl rfl HT_.out HW_.out hHeld ?_
        refine pus_ 8 (some 29) #[true, true, true, true, true, true, true, true, true, false, false] rfl rfl HT_.out ?_
        refine one_ (i := 9) (N := (some 30)) #[true, true, true, true, true, true, true, true, true, true, false] rfl rfl (one_of HT_.out (by kernel_rfl)) (by decide) (fun K hK => ?_)
        refine goes_ Try.func14 (by kernel_rfl) rfl #[.string (s.extract i s.size)] (by rfl) rfl rfl goa_ ?_
        refine (number_Scan.calls _ n _ A1.out).mono ?_
        rintro e w6 ⟨rfl, hb⟩
        refine ⟨_, rfl, ?_⟩
        have HX := Aside0.mk (HX5.out.below hb)
        have HK := Aside0.mk (HK5.out.call hb)
        have K2 := Aside0.mk (K25.out.call hb)
        have K3 := Aside0.mk (K35.out.call hb)
        clear hb HX5 HK5 K25 K35
        refine hK.out _ _ ⟨HX.out.s, HX.out.i⟩ (fun hHeld => ?_)
        clear hK K
        refine norm_ (a' := ?_) ?_ ?_
        rotate_left
        ·show Act.put _ (some 30) _ = _
         simp only [Act.put, List.setIfInBounds_toArray, List.set_cons_zero, List.set_cons_succ, i64_w, i32_w]
         rfl
        refine pus_ 10 (some 6) #[true, true, true, true, true, true, true, true, true, true, true] rfl rfl HT_.out ?_
        refine done_ (done_of HT_.out (by kernel_rfl)) ?_
        clear hHeld HT_ HW_
        have hc0 := HX.out.s
        have hc1 := HX.out.i
        have hz1 := HX.out.fz
        have ht0 := K3.out.c0
        have ht1 := K3.out.c1
        have ht2 := K3.out.c2
        have ht3 := K3.out.c3
        have hf0 := K3.out.fz 0
        have hf1 := K3.out.fz 1
        have hf2 := K3.out.fz 2
        have hf3 := K3.out.fz 3
        have hne := N2.out
        have hne2 := N2.out.symm
        have hne3 := N1.out
        have hne4 := N1.out.symm
        have hne5 := N3.out
        have hne6 := N3.out.symm
        go_wp2
        go_region
        have HXn : Aside0 (Lx (((w6.setCell ⟨b3, 0, none⟩ (.int .i64 3)).setCell ⟨b3, 3, none⟩ (.string (s.extract i m))).drew) g s i) := ⟨(Lx.far (Lx.far HX.out N2.out _ _) N2.out _ _).drew⟩
        have HKn : Aside0 (Lk g w (((w6.setCell ⟨b3, 0, none⟩ (.int .i64 3)).setCell ⟨b3, 3, none⟩ (.string (s.extract i m))).drew)) := ⟨(Lk.setN (Lk.setN HK.out HB3.out _ _) HB3.out _ _).drew⟩
        have K2n : Aside0 (Tk (((w6.setCell ⟨b3, 0, none⟩ (.int .i64 3)).setCell ⟨b3, 3, none⟩ (.string (s.extract i m))).drew) b2 0 0 ⟨#[]⟩ ⟨#[]⟩) := ⟨(Tk.far (Tk.far K2.out N3.out _ _) N3.out _ _).drew⟩
        have K3n : Aside0 (Tk (((w6.setCell ⟨b3, 0, none⟩ (.int .i64 3)).setCell ⟨b3, 3, none⟩ (.string (s.extract i m))).drew) b3 3 (i : Int) ⟨#[]⟩ (s.extract i m)) := ⟨(Tk.set3 (Tk.set0 K3.out _) _).drew⟩
        clear HX HK K2 K3 hc0 hc1 hz1 ht0 ht1 ht2 ht3 hf0 hf1 hf2 hf3
        have HX := HXn
        have HK := HKn
        have K2 := K2n
        have K3 := K3n
        clear HXn HKn K2n K3n
        generalize (((w6.setCell ⟨b3, 0, none⟩ (.int .i64 3)).setCell ⟨b3, 3, none⟩ (.string (s.extract i m))).drew) = w7 at HX HK K2 K3 ⊢
        have hc0 := HX.out.s
        have hc1 := HX.out.i
        have hz1 := HX.out.fz
        have ht0 := K3.out.c0
        have ht1 := K3.out.c1
        have ht2 := K3.out.c2
        have ht3 := K3.out.c3
        have hf0 := K3.out.fz 0
        have hf1 := K3.out.fz 1
        have hf2 := K3.out.fz 2
        have hf3 := K3.out.fz 3
        have hr0 := K2.out.c0
        have hr1 := K2.out.c1
        have hr2 := K2.out.c2
        have hr3 := K2.out.c3
        have hs0 := K2.out.fz 0
        have hs1 := K2.out.fz 1
        have hs2 := K2.out.fz 2
        have hs3 := K2.out.fz 3
        have HWM := Aside0.mk (show IntKind.i64.wrap (m : Int) = (m : Int) from wrapE m 0 (by have := HM.out; have := HS.out; omega))
        obtain ⟨p, hp, hf⟩ := Option.bind_eq_some_iff.mp hf
        have A2 := Aside0.mk hp
        clear hp
        cases p
        · rw [if_neg (by decide)] at hf
          obtain ⟨b, hb, hf⟩ := Option.bind_eq_some_iff.mp hf
          have A3 := Aside0.mk hb
          clear hb
          cases b
          · rw [if_neg (by decide)] at hf
            obtain ⟨rfl, rfl, rfl, rfl⟩ : (3 : Int) = kd ∧ (⟨#[]⟩ : ByteArray) = tx ∧ s.extract i m = nm ∧ m = j := by
              have h := Option.some.inj hf
              simp only [Prod.mk.injEq] at h
              exact h
            clear hf
            go_wp2_with (first | (go_at_call 15; with_reducible refine (is_pct0 s g m m HS.out HWM.out _ _ ?lx A2.out).mono ?_; (case lx => exact (by repeat (first | (with_reducible first | exact HX.out | apply Lx.drewN | apply Lx.set)))); rintro e wi ⟨rfl, ⟨ni, rfl⟩⟩) | (go_at_call 17; with_reducible refine (begins_calls k s g m HS.out HM.out _ _ ?lx A3.out).mono ?_; (case lx => exact (by repeat (first | (with_reducible first | exact HX.out | apply Lx.drewN | apply Lx.drew | apply Lx.set | apply lx_far N2.out)))); rintro e wb ⟨rfl, hb⟩; have HXn := Aside0.mk (Lx.below (by repeat (first | (with_reducible first | exact HX.out | apply Lx.drewN | apply Lx.drew | apply Lx.set | apply lx_far N2.out))) hb); have HKn := Aside0.mk (Lk.call (by repeat (first | (with_reducible first | exact HK.out | apply Lk.drewN | apply Lk.drew | apply Lk.set | apply lk_setN HB3.out))) hb); have K2n := Aside0.mk (Tk.call (by repeat (first | (with_reducible first | exact K2.out | apply Tk.drewN | apply Tk.drew | apply tk_far N1.out.symm | apply tk_far N3.out))) hb); have K3n := Aside0.mk (Tk.call (by repeat (first | (with_reducible first | exact K3.out | apply Tk.drewN | apply Tk.drew | apply tk_far N2.out.symm))) hb); clear hb; clear HX HK K2 K3; have HX := HXn; have HK := HKn; have K2 := K2n; have K3 := K3n; clear HXn HKn K2n K3n; have hc0 := HX.out.s; have hc1 := HX.out.i; have hz1 := HX.out.fz; have ht0 := K3.out.c0; have ht1 := K3.out.c1; have ht2 := K3.out.c2; have ht3 := K3.out.c3; have hf0 := K3.out.fz 0; have hf1 := K3.out.fz 1; have hf2 := K3.out.fz 2; have hf3 := K3.out.fz 3; have hr0 := K2.out.c0; have hr1 := K2.out.c1; have hr2 := K2.out.c2; have hr3 := K2.out.c3; have hs0 := K2.out.fz 0; have hs1 := K2.out.fz 1; have hs2 := K2.out.fz 2; have hs3 := K2.out.fz 3))
            refine bodyPost_ret (results_cell_row rfl _ _ b2 29 #[.int .i64 3, .int .i64 (i : Int), .string (⟨#[]⟩ : ByteArray), .string (s.extract i m)] (0, 0) _ rfl (show _ from Tk.set3 (Tk.set2 (Tk.set1 (Tk.set0 (by repeat (first | (with_reducible first | exact K2.out | apply Tk.drewN | apply Tk.drew | apply tk_far N1.out.symm | apply tk_far N3.out))) _) _) _) _) huT rfl (by kernel_rfl)) rfl ?_
            exact ⟨rfl, Lx.far (Lx.far (Lx.far (Lx.far (by repeat (first | (with_reducible first | exact HX.out | apply Lx.drewN | apply Lx.drew | apply Lx.set | apply lx_far N2.out))) N1.out _ _) N1.out _ _) N1.out _ _) N1.out _ _, Lk.setN (Lk.setN (Lk.setN (Lk.setN (by repeat (first | (with_reducible first | exact HK.out | apply Lk.drewN | apply Lk.drew | apply Lk.set | apply lk_setN HB3.out))) HS2.out _ _) HS2.out _ _) HS2.out _ _) HS2.out _ _⟩
          · rw [if_pos rfl] at hf
            obtain ⟨⟨l, e⟩, ht, hf⟩ := Option.bind_eq_some_iff.mp hf
            have A4 := Aside0.mk ht
            clear ht
            try dsimp only at hf
            by_cases h3 : l.length ≤ 64 ∧ e ≤ s.size
            · rw [if_pos h3] at hf
              obtain ⟨x, hx⟩ : ∃ x : ByteArray, (⟨l.toArray⟩ : ByteArray) = x := ⟨_, rfl⟩
              have HTX := Aside0.mk hx
              have hxs : x.size ≤ 64 := by
                rw [← hx]
                show l.toArray.size ≤ 64
                rw [List.size_toArray]
                exact h3.1
              have p8 : decide ((x.size : Int) > 64) = false := decide_eq_false (by omega)
              have p9 : decide (64 < (x.size : Int)) = false := decide_eq_false (by omega)
              rw [hx] at hf
              clear h3 hxs hx
              obtain ⟨rfl, rfl, rfl, rfl⟩ : (5 : Int) = kd ∧ x = tx ∧ s.extract i m = nm ∧ e = j := by
                have h := Option.some.inj hf
                simp only [Prod.mk.injEq] at h
                exact h
              clear hf
              go_wp2_with (first | (go_at_call 15; with_reducible refine (is_pct0 s g m m HS.out HWM.out _ _ ?lx A2.out).mono ?_; (case lx => exact (by repeat (first | (with_reducible first | exact HX.out | apply Lx.drewN | apply Lx.set)))); rintro e wi ⟨rfl, ⟨ni, rfl⟩⟩) | (go_at_call 17; with_reducible refine (begins_calls k s g m HS.out HM.out _ _ ?lx A3.out).mono ?_; (case lx => exact (by repeat (first | (with_reducible first | exact HX.out | apply Lx.drewN | apply Lx.drew | apply Lx.set | apply lx_far N2.out)))); rintro e wb ⟨rfl, hb⟩; have HXn := Aside0.mk (Lx.below (by repeat (first | (with_reducible first | exact HX.out | apply Lx.drewN | apply Lx.drew | apply Lx.set | apply lx_far N2.out))) hb); have HKn := Aside0.mk (Lk.call (by repeat (first | (with_reducible first | exact HK.out | apply Lk.drewN | apply Lk.drew | apply Lk.set | apply lk_setN HB3.out))) hb); have K2n := Aside0.mk (Tk.call (by repeat (first | (with_reducible first | exact K2.out | apply Tk.drewN | apply Tk.drew | apply tk_far N1.out.symm | apply tk_far N3.out))) hb); have K3n := Aside0.mk (Tk.call (by repeat (first | (with_reducible first | exact K3.out | apply Tk.drewN | apply Tk.drew | apply tk_far N2.out.symm))) hb); clear hb; clear HX HK K2 K3; have HX := HXn; have HK := HKn; have K2 := K2n; have K3 := K3n; clear HXn HKn K2n K3n; have hc0 := HX.out.s; have hc1 := HX.out.i; have hz1 := HX.out.fz; have ht0 := K3.out.c0; have ht1 := K3.out.c1; have ht2 := K3.out.c2; have ht3 := K3.out.c3; have hf0 := K3.out.fz 0; have hf1 := K3.out.fz 1; have hf2 := K3.out.fz 2; have hf3 := K3.out.fz 3; have hr0 := K2.out.c0; have hr1 := K2.out.c1; have hr2 := K2.out.c2; have hr3 := K2.out.c3; have hs0 := K2.out.fz 0; have hs1 := K2.out.fz 1; have hs2 := K2.out.fz 2; have hs3 := K2.out.fz 3) | (go_at_call 18; with_reducible refine (ident_calls k s g m _ _ HS.out HM.out _ ?lx A4.out).mono ?_; (case lx => exact (by repeat (first | (with_reducible first | exact HX.out | apply Lx.drewN | apply Lx.drew | apply Lx.set | apply lx_far N2.out)))); rintro e wd ⟨rfl, hx, hk⟩; rw [HTX.out]; have HXn := Aside0.mk hx; have HKn := Aside0.mk (Lk.trans (by repeat (first | (with_reducible first | exact HK.out | apply Lk.drewN | apply Lk.drew | apply Lk.set | apply lk_setN HB3.out))) hk); have K2n := Aside0.mk (Tk.lk (by repeat (first | (with_reducible first | exact K2.out | apply Tk.drewN | apply Tk.drew | apply tk_far N1.out.symm | apply tk_far N3.out))) hk N1.out.symm); have K3n := Aside0.mk (Tk.lk (by repeat (first | (with_reducible first | exact K3.out | apply Tk.drewN | apply Tk.drew | apply tk_far N2.out.symm))) hk N2.out.symm); clear hx hk; clear HX HK K2 K3; have HX := HXn; have HK := HKn; have K2 := K2n; have K3 := K3n; clear HXn HKn K2n K3n; have hc0 := HX.out.s; have hc1 := HX.out.i; have hz1 := HX.out.fz; have ht0 := K3.out.c0; have ht1 := K3.out.c1; have ht2 := K3.out.c2; have ht3 := K3.out.c3; have hf0 := K3.out.fz 0; have hf1 := K3.out.fz 1; have hf2 := K3.out.fz 2; have hf3 := K3.out.fz 3; have hr0 := K2.out.c0; have hr1 := K2.out.c1; have hr2 := K2.out.c2; have hr3 := K2.out.c3; have hs0 := K2.out.fz 0; have hs1 := K2.out.fz 1; have hs2 := K2.out.fz 2; have hs3 := K2.out.fz 3))
              refine bodyPost_ret (results_cell_row rfl _ _ b2 29 #[.int .i64 5, .int .i64 (i : Int), .string x, .string (s.extract i m)] (0, 0) _ rfl (show _ from Tk.set3 (Tk.set2 (Tk.set1 (Tk.set0 (by repeat (first | (with_reducible first | exact K2.out | apply Tk.drewN | apply Tk.drew | apply tk_far N1.out.symm | apply tk_far N3.out))) _) _) _) _) huT rfl (by kernel_rfl)) rfl ?_
              exact ⟨rfl, Lx.far (Lx.far (Lx.far (Lx.far (by repeat (first | (with_reducible first | exact HX.out | apply Lx.drewN | apply Lx.drew | apply Lx.set | apply lx_far N2.out))) N1.out _ _) N1.out _ _) N1.out _ _) N1.out _ _, Lk.setN (Lk.setN (Lk.setN (Lk.setN (by repeat (first | (with_reducible first | exact HK.out | apply Lk.drewN | apply Lk.drew | apply Lk.set | apply lk_setN HB3.out))) HS2.out _ _) HS2.out _ _) HS2.out _ _) HS2.out _ _⟩
            · rw [if_neg h3] at hf
              cases hf
        · rw [if_pos rfl] at hf
          have hwm1 : wrap64 ((m : Int) + 1) = ((m + 1 : Nat) : Int) := by have := HM.out; have := HS.out; unfold wrap64; omega
          obtain ⟨rfl, rfl, rfl, rfl⟩ : (4 : Int) = kd ∧ (⟨#[]⟩ : ByteArray) = tx ∧ s.extract i m = nm ∧ m + 1 = j := by
            have h := Option.some.inj hf
            simp only [Prod.mk.injEq] at h
            exact h
          clear hf
          go_wp2_with (first | (go_at_call 15; with_reducible refine (is_pct0 s g m m HS.out HWM.out _ _ ?lx A2.out).mono ?_; (case lx => exact (by repeat (first | (with_reducible first | exact HX.out | apply Lx.drewN | apply Lx.set)))); rintro e wi ⟨rfl, ⟨ni, rfl⟩⟩))
          refine bodyPost_ret (results_cell_row rfl _ _ b2 29 #[.int .i64 4, .int .i64 (i : Int), .string (⟨#[]⟩ : ByteArray), .string (s.extract i m)] (0, 0) _ rfl (show _ from Tk.set3 (Tk.set2 (Tk.set1 (Tk.set0 (by repeat (first | (with_reducible first | exact K2.out | apply Tk.drewN | apply Tk.drew | apply tk_far N1.out.symm | apply tk_far N3.out))) _) _) _) _) huT rfl (by kernel_rfl)) rfl ?_
          exact ⟨rfl, Lx.far (Lx.far (Lx.far (Lx.far (Lx.setv (by repeat (first | (with_reducible first | exact HX.out | apply Lx.drewN | apply Lx.drew | apply Lx.set | apply lx_far N2.out))) (by omega)) N1.out _ _) N1.out _ _) N1.out _ _) N1.out _ _, Lk.setN (Lk.setN (Lk.setN (Lk.setN (by repeat (first | (with_reducible first | exact HK.out | apply Lk.drewN | apply Lk.drew | apply Lk.set | apply lk_setN HB3.out))) HS2.out _ _) HS2.out _ _) HS2.out _ _) HS2.out _ _⟩
      · rw [if_neg h2] at hf
        cases hf
    · rw [if_neg h1] at hf
      have p1 : decide (n > 0) = false := decide_eq_false h1
      have p2 : decide (0 < n) = false := decide_eq_false h1
      clear hlt hs h1
      obtain ⟨b, hb, hf⟩ := Option.bind_eq_some_iff.mp hf
      have A2 := Aside0.mk hb
      clear hb
      cases b
      · rw [if_neg (by decide)] at hf
        by_cases h3 : bt s (i : Nat) = 34 ∨ bt s (i : Nat) = 39
        · rw [if_pos h3] at hf
          obtain ⟨tq, ht, hf⟩ := Option.bind_eq_some_iff.mp hf
          obtain ⟨⟨l, e⟩, htq, hf2⟩ := Option.bind_eq_some_iff.mp hf
          clear hf
          subst htq
          have hf := hf2
          clear hf2
          have A4 := Aside0.mk ht
          clear ht
          try dsimp only at hf
          by_cases h4 : l.length ≤ 8192 ∧ e ≤ s.size
          · rw [if_pos h4] at hf
            obtain ⟨x, hx⟩ : ∃ x : ByteArray, (⟨l.toArray⟩ : ByteArray) = x := ⟨_, rfl⟩
            have HTX := Aside0.mk hx
            have hxs : x.size ≤ 8192 := by
              rw [← hx]
              show l.toArray.size ≤ 8192
              rw [List.size_toArray]
              exact h4.1
            have p8 : decide ((x.size : Int) > 8192) = false := decide_eq_false (by omega)
            have p9 : decide (8192 < (x.size : Int)) = false := decide_eq_false (by omega)
            rw [hx] at hf
            clear hxs hx h4
            by_cases h34 : bt s (i : Nat) = 34
            · have p3 : (bt s (i : Nat) == 34) = true := beq_iff_eq.mpr h34
              clear h3 h34
              obtain ⟨rfl, rfl, rfl, rfl⟩ : (6 : Int) = kd ∧ x = tx ∧ (⟨#[]⟩ : ByteArray) = nm ∧ e = j := by
                have h := Option.some.inj hf
                simp only [Prod.mk.injEq] at h
                exact h
              clear hf
              go_enter Try.func9, Try.ntmps9
              go_wp2_with (first | ((with_reducible refine gate_dst (N := 2) rfl ?_); (try (refine gate_guard (by rfl) ?_; dsimp only)); refine box_event ?hg (N := 2) ?hd (cs := #[.int .i64 0, .int .i64 0, .string (⟨#[]⟩ : ByteArray), .string (⟨#[]⟩ : ByteArray)]) (t := 29) ?hr ?_; (case hd => rfl); (case hg => rfl); (case hr => first | (go_simp; done) | (go_simp; rfl)); intro b2 hg w2 hbox hb; have HG2 := Aside0.mk hg; have K2 := Aside0.mk (show Tk w2 b2 0 0 ⟨#[]⟩ ⟨#[]⟩ from hbox); have HX2 := Aside0.mk (Lx.below HX.out hb); have HK2 := Aside0.mk (Lk.of_below (g := g) hb); clear hg hbox hb HX; have HX := HX2; have HK := HK2; clear HX2 HK2; have hc0 := HX.out.s; have hc1 := HX.out.i; have hz1 := HX.out.fz) | ((with_reducible refine gate_dst (N := 3) rfl ?_); (try (refine gate_guard (by rfl) ?_; dsimp only)); refine box_event ?hg (N := 3) ?hd (cs := #[.int .i64 0, .int .i64 0, .string (⟨#[]⟩ : ByteArray), .string (⟨#[]⟩ : ByteArray)]) (t := 29) ?hr ?_; (case hd => rfl); (case hg => rfl); (case hr => first | (go_simp; done) | (go_simp; rfl)); intro b3 hg w3 hbox hb; have HG3 := Aside0.mk hg; have K2L := Aside0.mk (Tk.lt K2.out); have K3 := Aside0.mk (show Tk w3 b3 0 0 ⟨#[]⟩ ⟨#[]⟩ from hbox); have HX2 := Aside0.mk (Lx.below HX.out hb); have HK2 := Aside0.mk (Lk.call HK.out hb); have K22 := Aside0.mk (Tk.call K2.out hb); clear hg hbox hb HX HK K2; have HX := HX2; have HK := HK2; have K2 := K22; clear HX2 HK2 K22; have ht0 := K3.out.c0; have ht1 := K3.out.c1; have ht2 := K3.out.c2; have ht3 := K3.out.c3; have hf0 := K3.out.fz 0; have hf1 := K3.out.fz 1; have hf2 := K3.out.fz 2; have hf3 := K3.out.fz 3))
              have HS2 := Aside0.mk (show w.heap.size ≤ b2 by rw [HG2.out]; exact Nat.le_refl _)
              have HS3 := Aside0.mk (show b2 < b3 by rw [HG3.out]; exact K2L.out)
              have N1 := Aside0.mk (show g ≠ b2 by have := HS2.out; have := HG.out; omega)
              have N2 := Aside0.mk (show g ≠ b3 by have := HS2.out; have := HS3.out; have := HG.out; omega)
              have N3 := Aside0.mk (show b2 ≠ b3 by have := HS3.out; omega)
              have HB3 := Aside0.mk (show w.heap.size ≤ b3 by have := HS2.out; have := HS3.out; omega)
              have HX4 : Aside0 (Lx ((((w3.setCell ⟨b3, 0, none⟩ (.int .i64 0)).setCell ⟨b3, 1, none⟩ (.int .i64 (i : Int))).setCell ⟨b3, 2, none⟩ (.string (⟨#[]⟩ : ByteArray))).setCell ⟨b3, 3, none⟩ (.string (⟨#[]⟩ : ByteArray))) g s i) := ⟨Lx.far (Lx.far (Lx.far (Lx.far HX.out N2.out _ _) N2.out _ _) N2.out _ _) N2.out _ _⟩
              have HK4 : Aside0 (Lk g w ((((w3.setCell ⟨b3, 0, none⟩ (.int .i64 0)).setCell ⟨b3, 1, none⟩ (.int .i64 (i : Int))).setCell ⟨b3, 2, none⟩ (.string (⟨#[]⟩ : ByteArray))).setCell ⟨b3, 3, none⟩ (.string (⟨#[]⟩ : ByteArray)))) := ⟨Lk.setN (Lk.setN (Lk.setN (Lk.setN HK.out HB3.out _ _) HB3.out _ _) HB3.out _ _) HB3.out _ _⟩
              have K24 : Aside0 (Tk ((((w3.setCell ⟨b3, 0, none⟩ (.int .i64 0)).setCell ⟨b3, 1, none⟩ (.int .i64 (i : Int))).setCell ⟨b3, 2, none⟩ (.string (⟨#[]⟩ : ByteArray))).setCell ⟨b3, 3, none⟩ (.string (⟨#[]⟩ : ByteArray))) b2 0 0 ⟨#[]⟩ ⟨#[]⟩) := ⟨Tk.far (Tk.far (Tk.far (Tk.far K2.out N3.out _ _) N3.out _ _) N3.out _ _) N3.out _ _⟩
              have K34 : Aside0 (Tk ((((w3.setCell ⟨b3, 0, none⟩ (.int .i64 0)).setCell ⟨b3, 1, none⟩ (.int .i64 (i : Int))).setCell ⟨b3, 2, none⟩ (.string (⟨#[]⟩ : ByteArray))).setCell ⟨b3, 3, none⟩ (.string (⟨#[]⟩ : ByteArray))) b3 0 (i : Int) ⟨#[]⟩ ⟨#[]⟩) := ⟨Tk.set3 (Tk.set2 (Tk.set1 (Tk.set0 K3.out _) _) _) _⟩
              clear HX HK K2 K3 hc0 hc1 hz1 ht0 ht1 ht2 ht3 hf0 hf1 hf2 hf3
              generalize ((((w3.setCell ⟨b3, 0, none⟩ (.int .i64 0)).setCell ⟨b3, 1, none⟩ (.int .i64 (i : Int))).setCell ⟨b3, 2, none⟩ (.string (⟨#[]⟩ : ByteArray))).setCell ⟨b3, 3, none⟩ (.string (⟨#[]⟩ : ByteArray))) = w4 at HX4 HK4 K24 K34 ⊢
              have hc0 := HX4.out.s
              have hc1 := HX4.out.i
              go_wp2
              refine wp_region_quiet_lit (by kernel_rfl) (by kernel_rfl) ?_
              repeat (go_big_quiet_step (fail))
              refine wpQuiet_nil ?_
              intro _ hw'
              obtain ⟨nq, hw''⟩ := hw'
              subst hw''
              go_wp2
              have HX5 : Aside0 (Lx (w4.drewN nq).drew g s i) := ⟨HX4.out⟩
              have HK5 : Aside0 (Lk g w (w4.drewN nq).drew) := ⟨(HK4.out.drewN nq).drew⟩
              have K25 : Aside0 (Tk (w4.drewN nq).drew b2 0 0 ⟨#[]⟩ ⟨#[]⟩) := ⟨K24.out⟩
              have K35 : Aside0 (Tk (w4.drewN nq).drew b3 0 (i : Int) ⟨#[]⟩ ⟨#[]⟩) := ⟨K34.out⟩
              clear HX4 HK4 K24 K34 hc0 hc1
              refine start_ (n := 11) (S := (fun w' => w'.cell? ⟨g, 0, none⟩ = some (.string s) ∧ w'.cell? ⟨g, 1, none⟩ = some (.int .i64 (i : Int)))) (ds := []) #[false, false, false, false, false, false, false, false, false, false, false] (by kernel_rfl) rfl rfl ⟨HX5.out.s, HX5.out.i⟩ (fun hHeld => ?_)
              refine with_tabW lexer_word.tab4 lexer_word.bits4 (fun HT_ HW_ => ?_)
              generalize (w4.drewN nq).drew = w5 at HX5 HK5 K25 K35 hHeld ⊢
              refine pus_ 0 (some 21) #[true, false, false, false, false, false, false, false, false, false, false] rfl rfl HT_.out ?_
              refine pus_ 1 (some 22) #[true, true, false, false, false, false, false, false, false, false, false] rfl rfl HT_.out ?_
              refine pus_ 2 (some 23) #[true, true, true, false, false, false, false, false, false, false, false] rfl rfl HT_.out ?_
              refine tas_ 3 (some 24) #[true, true, true, true, false, false, false, false, false, false, false] rfl rfl HT_.out HW_.out hHeld ?_
              refine pus_ 4 (some 25) #[true, true, true, true, true, false, false, false, false, false, false] rfl rfl HT_.out ?_
              refine pus_ 5 (some 26) #[true, true, true, true, true, true, false, false, false, false, false] rfl rfl HT_.out ?_
              refine pus_ 6 (some 27) #[true, true, true, true, true, true, true, false, false, false, false] rfl rfl HT_.out ?_
              refine tas_ 7 (some 28) #[true, true, true, true, true, true, true, true, false, false, false] rfl rfl HT_.out HW_.out hHeld ?_
              refine pus_ 8 (some 29) #[true, true, true, true, true, true, true, true, true, false, false] rfl rfl HT_.out ?_
              refine one_ (i := 9) (N := (some 30)) #[true, true, true, true, true, true, true, true, true, true, false] rfl rfl (one_of HT_.out (by kernel_rfl)) (by decide) (fun K hK => ?_)
              refine goes_ Try.func14 (by kernel_rfl) rfl #[.string (s.extract i s.size)] (by rfl) rfl rfl goa_ ?_
              refine (number_Scan.calls _ n _ A1.out).mono ?_
              rintro e w6 ⟨rfl, hb⟩
              refine ⟨_, rfl, ?_⟩
              have HX := Aside0.mk (HX5.out.below hb)
              have HK := Aside0.mk (HK5.out.call hb)
              have K2 := Aside0.mk (K25.out.call hb)
              have K3 := Aside0.mk (K35.out.call hb)
              clear hb HX5 HK5 K25 K35
              refine hK.out _ _ ⟨HX.out.s, HX.out.i⟩ (fun hHeld => ?_)
              clear hK K
              refine norm_ (a' := ?_) ?_ ?_
              rotate_left
              ·show Act.put _ (some 30) _ = _
               simp only [Act.put, List.setIfInBounds_toArray, List.set_cons_zero, List.set_cons_succ, i64_w, i32_w]
               rfl
              refine pus_ 10 (some 6) #[true, true, true, true, true, true, true, true, true, true, true] rfl rfl HT_.out ?_
              refine done_ (done_of HT_.out (by kernel_rfl)) ?_
              clear hHeld HT_ HW_
              have hc0 := HX.out.s
              have hc1 := HX.out.i
              have hz1 := HX.out.fz
              have ht0 := K3.out.c0
              have ht1 := K3.out.c1
              have ht2 := K3.out.c2
              have ht3 := K3.out.c3
              have hf0 := K3.out.fz 0
              have hf1 := K3.out.fz 1
              have hf2 := K3.out.fz 2
              have hf3 := K3.out.fz 3
              have hne := N2.out
              have hne2 := N2.out.symm
              have hne3 := N1.out
              have hne4 := N1.out.symm
              have hne5 := N3.out
              have hne6 := N3.out.symm
              go_wp2_with (first | (go_at_call 17; with_reducible refine (begins_calls k s g i HS.out HII.out _ _ ?lx A2.out).mono ?_; (case lx => exact (by repeat (first | (with_reducible first | exact HX.out | apply Lx.drewN | apply Lx.drew | apply Lx.set | apply lx_far N2.out)))); rintro e wb ⟨rfl, hb⟩; have HXn := Aside0.mk (Lx.below (by repeat (first | (with_reducible first | exact HX.out | apply Lx.drewN | apply Lx.drew | apply Lx.set | apply lx_far N2.out))) hb); have HKn := Aside0.mk (Lk.call (by repeat (first | (with_reducible first | exact HK.out | apply Lk.drewN | apply Lk.drew | apply Lk.set | apply lk_setN HB3.out))) hb); have K2n := Aside0.mk (Tk.call (by repeat (first | (with_reducible first | exact K2.out | apply Tk.drewN | apply Tk.drew | apply tk_far N1.out.symm | apply tk_far N3.out))) hb); have K3n := Aside0.mk (Tk.call (by repeat (first | (with_reducible first | exact K3.out | apply Tk.drewN | apply Tk.drew | apply tk_far N2.out.symm))) hb); clear hb; clear HX HK K2 K3; have HX := HXn; have HK := HKn; have K2 := K2n; have K3 := K3n; clear HXn HKn K2n K3n; have hc0 := HX.out.s; have hc1 := HX.out.i; have hz1 := HX.out.fz; have ht0 := K3.out.c0; have ht1 := K3.out.c1; have ht2 := K3.out.c2; have ht3 := K3.out.c3; have hf0 := K3.out.fz 0; have hf1 := K3.out.fz 1; have hf2 := K3.out.fz 2; have hf3 := K3.out.fz 3; have hr0 := K2.out.c0; have hr1 := K2.out.c1; have hr2 := K2.out.c2; have hr3 := K2.out.c3; have hs0 := K2.out.fz 0; have hs1 := K2.out.fz 1; have hs2 := K2.out.fz 2; have hs3 := K2.out.fz 3) | (go_at_call 20; with_reducible refine (quotedE_calls k s g i _ HS.out HLT.out _ ?lx A4.out).mono ?_; (case lx => exact (by repeat (first | (with_reducible first | exact HX.out | apply Lx.drewN | apply Lx.drew | apply Lx.set | apply lx_far N2.out)))); intro e wd hqr; obtain ⟨rfl, hx, hk⟩ := hqr.out; rw [HTX.out]; have HXn := Aside0.mk hx; have HKn := Aside0.mk (Lk.trans (by repeat (first | (with_reducible first | exact HK.out | apply Lk.drewN | apply Lk.drew | apply Lk.set | apply lk_setN HB3.out))) hk); have K2n := Aside0.mk (Tk.lk (by repeat (first | (with_reducible first | exact K2.out | apply Tk.drewN | apply Tk.drew | apply tk_far N1.out.symm | apply tk_far N3.out))) hk N1.out.symm); have K3n := Aside0.mk (Tk.lk (by repeat (first | (with_reducible first | exact K3.out | apply Tk.drewN | apply Tk.drew | apply tk_far N2.out.symm))) hk N2.out.symm); clear hx hk; clear HX HK K2 K3; have HX := HXn; have HK := HKn; have K2 := K2n; have K3 := K3n; clear HXn HKn K2n K3n; have hc0 := HX.out.s; have hc1 := HX.out.i; have hz1 := HX.out.fz; have ht0 := K3.out.c0; have ht1 := K3.out.c1; have ht2 := K3.out.c2; have ht3 := K3.out.c3; have hf0 := K3.out.fz 0; have hf1 := K3.out.fz 1; have hf2 := K3.out.fz 2; have hf3 := K3.out.fz 3; have hr0 := K2.out.c0; have hr1 := K2.out.c1; have hr2 := K2.out.c2; have hr3 := K2.out.c3; have hs0 := K2.out.fz 0; have hs1 := K2.out.fz 1; have hs2 := K2.out.fz 2; have hs3 := K2.out.fz 3))
              refine bodyPost_ret (results_cell_row rfl _ _ b2 29 #[.int .i64 6, .int .i64 (i : Int), .string x, .string (⟨#[]⟩ : ByteArray)] (0, 0) _ rfl (show _ from Tk.set3 (Tk.set2 (Tk.set1 (Tk.set0 (by repeat (first | (with_reducible first | exact K2.out | apply Tk.drewN | apply Tk.drew | apply tk_far N1.out.symm | apply tk_far N3.out))) _) _) _) _) huT rfl (by kernel_rfl)) rfl ?_
              exact ⟨rfl, Lx.far (Lx.far (Lx.far (Lx.far (by repeat (first | (with_reducible first | exact HX.out | apply Lx.drewN | apply Lx.drew | apply Lx.set | apply lx_far N2.out))) N1.out _ _) N1.out _ _) N1.out _ _) N1.out _ _, Lk.setN (Lk.setN (Lk.setN (Lk.setN (by repeat (first | (with_reducible first | exact HK.out | apply Lk.drewN | apply Lk.drew | apply Lk.set | apply lk_setN HB3.out))) HS2.out _ _) HS2.out _ _) HS2.out _ _) HS2.out _ _⟩
            · have p3 : (bt s (i : Nat) == 34) = false := beq_eq_false_iff_ne.mpr h34
              have p4 : (bt s (i : Nat) == 39) = true := beq_iff_eq.mpr (h3.resolve_left h34)
              clear h3 h34
              obtain ⟨rfl, rfl, rfl, rfl⟩ : (6 : Int) = kd ∧ x = tx ∧ (⟨#[]⟩ : ByteArray) = nm ∧ e = j := by
                have h := Option.some.inj hf
                simp only [Prod.mk.injEq] at h
                exact h
              clear hf
              go_enter Try.func9, Try.ntmps9
              go_wp2_with (first | ((with_reducible refine gate_dst (N := 2) rfl ?_); (try (refine gate_guard (by rfl) ?_; dsimp only)); refine box_event ?hg (N := 2) ?hd (cs := #[.int .i64 0, .int .i64 0, .string (⟨#[]⟩ : ByteArray), .string (⟨#[]⟩ : ByteArray)]) (t := 29) ?hr ?_; (case hd => rfl); (case hg => rfl); (case hr => first | (go_simp; done) | (go_simp; rfl)); intro b2 hg w2 hbox hb; have HG2 := Aside0.mk hg; have K2 := Aside0.mk (show Tk w2 b2 0 0 ⟨#[]⟩ ⟨#[]⟩ from hbox); have HX2 := Aside0.mk (Lx.below HX.out hb); have HK2 := Aside0.mk (Lk.of_below (g := g) hb); clear hg hbox hb HX; have HX := HX2; have HK := HK2; clear HX2 HK2; have hc0 := HX.out.s; have hc1 := HX.out.i; have hz1 := HX.out.fz) | ((with_reducible refine gate_dst (N := 3) rfl ?_); (try (refine gate_guard (by rfl) ?_; dsimp only)); refine box_event ?hg (N := 3) ?hd (cs := #[.int .i64 0, .int .i64 0, .string (⟨#[]⟩ : ByteArray), .string (⟨#[]⟩ : ByteArray)]) (t := 29) ?hr ?_; (case hd => rfl); (case hg => rfl); (case hr => first | (go_simp; done) | (go_simp; rfl)); intro b3 hg w3 hbox hb; have HG3 := Aside0.mk hg; have K2L := Aside0.mk (Tk.lt K2.out); have K3 := Aside0.mk (show Tk w3 b3 0 0 ⟨#[]⟩ ⟨#[]⟩ from hbox); have HX2 := Aside0.mk (Lx.below HX.out hb); have HK2 := Aside0.mk (Lk.call HK.out hb); have K22 := Aside0.mk (Tk.call K2.out hb); clear hg hbox hb HX HK K2; have HX := HX2; have HK := HK2; have K2 := K22; clear HX2 HK2 K22; have ht0 := K3.out.c0; have ht1 := K3.out.c1; have ht2 := K3.out.c2; have ht3 := K3.out.c3; have hf0 := K3.out.fz 0; have hf1 := K3.out.fz 1; have hf2 := K3.out.fz 2; have hf3 := K3.out.fz 3))
              have HS2 := Aside0.mk (show w.heap.size ≤ b2 by rw [HG2.out]; exact Nat.le_refl _)
              have HS3 := Aside0.mk (show b2 < b3 by rw [HG3.out]; exact K2L.out)
              have N1 := Aside0.mk (show g ≠ b2 by have := HS2.out; have := HG.out; omega)
              have N2 := Aside0.mk (show g ≠ b3 by have := HS2.out; have := HS3.out; have := HG.out; omega)
              have N3 := Aside0.mk (show b2 ≠ b3 by have := HS3.out; omega)
              have HB3 := Aside0.mk (show w.heap.size ≤ b3 by have := HS2.out; have := HS3.out; omega)
              have HX4 : Aside0 (Lx ((((w3.setCell ⟨b3, 0, none⟩ (.int .i64 0)).setCell ⟨b3, 1, none⟩ (.int .i64 (i : Int))).setCell ⟨b3, 2, none⟩ (.string (⟨#[]⟩ : ByteArray))).setCell ⟨b3, 3, none⟩ (.string (⟨#[]⟩ : ByteArray))) g s i) := ⟨Lx.far (Lx.far (Lx.far (Lx.far HX.out N2.out _ _) N2.out _ _) N2.out _ _) N2.out _ _⟩
              have HK4 : Aside0 (Lk g w ((((w3.setCell ⟨b3, 0, none⟩ (.int .i64 0)).setCell ⟨b3, 1, none⟩ (.int .i64 (i : Int))).setCell ⟨b3, 2, none⟩ (.string (⟨#[]⟩ : ByteArray))).setCell ⟨b3, 3, none⟩ (.string (⟨#[]⟩ : ByteArray)))) := ⟨Lk.setN (Lk.setN (Lk.setN (Lk.setN HK.out HB3.out _ _) HB3.out _ _) HB3.out _ _) HB3.out _ _⟩
              have K24 : Aside0 (Tk ((((w3.setCell ⟨b3, 0, none⟩ (.int .i64 0)).setCell ⟨b3, 1, none⟩ (.int .i64 (i : Int))).setCell ⟨b3, 2, none⟩ (.string (⟨#[]⟩ : ByteArray))).setCell ⟨b3, 3, none⟩ (.string (⟨#[]⟩ : ByteArray))) b2 0 0 ⟨#[]⟩ ⟨#[]⟩) := ⟨Tk.far (Tk.far (Tk.far (Tk.far K2.out N3.out _ _) N3.out _ _) N3.out _ _) N3.out _ _⟩
              have K34 : Aside0 (Tk ((((w3.setCell ⟨b3, 0, none⟩ (.int .i64 0)).setCell ⟨b3, 1, none⟩ (.int .i64 (i : Int))).setCell ⟨b3, 2, none⟩ (.string (⟨#[]⟩ : ByteArray))).setCell ⟨b3, 3, none⟩ (.string (⟨#[]⟩ : ByteArray))) b3 0 (i : Int) ⟨#[]⟩ ⟨#[]⟩) := ⟨Tk.set3 (Tk.set2 (Tk.set1 (Tk.set0 K3.out _) _) _) _⟩
              clear HX HK K2 K3 hc0 hc1 hz1 ht0 ht1 ht2 ht3 hf0 hf1 hf2 hf3
              generalize ((((w3.setCell ⟨b3, 0, none⟩ (.int .i64 0)).setCell ⟨b3, 1, none⟩ (.int .i64 (i : Int))).setCell ⟨b3, 2, none⟩ (.string (⟨#[]⟩ : ByteArray))).setCell ⟨b3, 3, none⟩ (.string (⟨#[]⟩ : ByteArray))) = w4 at HX4 HK4 K24 K34 ⊢
              have hc0 := HX4.out.s
              have hc1 := HX4.out.i
              go_wp2
              refine wp_region_quiet_lit (by kernel_rfl) (by kernel_rfl) ?_
              repeat (go_big_quiet_step (fail))
              refine wpQuiet_nil ?_
              intro _ hw'
              obtain ⟨nq, hw''⟩ := hw'
              subst hw''
              go_wp2
              have HX5 : Aside0 (Lx (w4.drewN nq).drew g s i) := ⟨HX4.out⟩
              have HK5 : Aside0 (Lk g w (w4.drewN nq).drew) := ⟨(HK4.out.drewN nq).drew⟩
              have K25 : Aside0 (Tk (w4.drewN nq).drew b2 0 0 ⟨#[]⟩ ⟨#[]⟩) := ⟨K24.out⟩
              have K35 : Aside0 (Tk (w4.drewN nq).drew b3 0 (i : Int) ⟨#[]⟩ ⟨#[]⟩) := ⟨K34.out⟩
              clear HX4 HK4 K24 K34 hc0 hc1
              refine start_ (n := 11) (S := (fun w' => w'.cell? ⟨g, 0, none⟩ = some (.string s) ∧ w'.cell? ⟨g, 1, none⟩ = some (.int .i64 (i : Int)))) (ds := []) #[false, false, false, false, false, false, false, false, false, false, false] (by kernel_rfl) rfl rfl ⟨HX5.out.s, HX5.out.i⟩ (fun hHeld => ?_)
              refine with_tabW lexer_word.tab4 lexer_word.bits4 (fun HT_ HW_ => ?_)
              generalize (w4.drewN nq).drew = w5 at HX5 HK5 K25 K35 hHeld ⊢
              refine pus_ 0 (some 21) #[true, false, false, false, false, false, false, false, false, false, false] rfl rfl HT_.out ?_
              refine pus_ 1 (some 22) #[true, true, false, false, false, false, false, false, false, false, false] rfl rfl HT_.out ?_
              refine pus_ 2 (some 23) #[true, true, true, false, false, false, false, false, false, false, false] rfl rfl HT_.out ?_
              refine tas_ 3 (some 24) #[true, true, true, true, false, false, false, false, false, false, false] rfl rfl HT_.out HW_.out hHeld ?_
              refine pus_ 4 (some 25) #[true, true, true, true, true, false, false, false, false, false, false] rfl rfl HT_.out ?_
              refine pus_ 5 (some 26) #[true, true, true, true, true, true, false, false, false, false, false] rfl rfl HT_.out ?_
              refine pus_ 6 (some 27) #[true, true, true, true, true, true, true, false, false, false, false] rfl rfl HT_.out ?_
              refine tas_ 7 (some 28) #[true, true, true, true, true, true, true, true, false, false, false] rfl rfl HT_.out HW_.out hHeld ?_
              refine pus_ 8 (some 29) #[true, true, true, true, true, true, true, true, true, false, false] rfl rfl HT_.out ?_
              refine one_ (i := 9) (N := (some 30)) #[true, true, true, true, true, true, true, true, true, true, false] rfl rfl (one_of HT_.out (by kernel_rfl)) (by decide) (fun K hK => ?_)
              refine goes_ Try.func14 (by kernel_rfl) rfl #[.string (s.extract i s.size)] (by rfl) rfl rfl goa_ ?_
              refine (number_Scan.calls _ n _ A1.out).mono ?_
              rintro e w6 ⟨rfl, hb⟩
              refine ⟨_, rfl, ?_⟩
              have HX := Aside0.mk (HX5.out.below hb)
              have HK := Aside0.mk (HK5.out.call hb)
              have K2 := Aside0.mk (K25.out.call hb)
              have K3 := Aside0.mk (K35.out.call hb)
              clear hb HX5 HK5 K25 K35
              refine hK.out _ _ ⟨HX.out.s, HX.out.i⟩ (fun hHeld => ?_)
              clear hK K
              refine norm_ (a' := ?_) ?_ ?_
              rotate_left
              ·show Act.put _ (some 30) _ = _
               simp only [Act.put, List.setIfInBounds_toArray, List.set_cons_zero, List.set_cons_succ, i64_w, i32_w]
               rfl
              refine pus_ 10 (some 6) #[true, true, true, true, true, true, true, true, true, true, true] rfl rfl HT_.out ?_
              refine done_ (done_of HT_.out (by kernel_rfl)) ?_
              clear hHeld HT_ HW_
              have hc0 := HX.out.s
              have hc1 := HX.out.i
              have hz1 := HX.out.fz
              have ht0 := K3.out.c0
              have ht1 := K3.out.c1
              have ht2 := K3.out.c2
              have ht3 := K3.out.c3
              have hf0 := K3.out.fz 0
              have hf1 := K3.out.fz 1
              have hf2 := K3.out.fz 2
              have hf3 := K3.out.fz 3
              have hne := N2.out
              have hne2 := N2.out.symm
              have hne3 := N1.out
              have hne4 := N1.out.symm
              have hne5 := N3.out
              have hne6 := N3.out.symm
              go_wp2_with (first | (go_at_call 17; with_reducible refine (begins_calls k s g i HS.out HII.out _ _ ?lx A2.out).mono ?_; (case lx => exact (by repeat (first | (with_reducible first | exact HX.out | apply Lx.drewN | apply Lx.drew | apply Lx.set | apply lx_far N2.out)))); rintro e wb ⟨rfl, hb⟩; have HXn := Aside0.mk (Lx.below (by repeat (first | (with_reducible first | exact HX.out | apply Lx.drewN | apply Lx.drew | apply Lx.set | apply lx_far N2.out))) hb); have HKn := Aside0.mk (Lk.call (by repeat (first | (with_reducible first | exact HK.out | apply Lk.drewN | apply Lk.drew | apply Lk.set | apply lk_setN HB3.out))) hb); have K2n := Aside0.mk (Tk.call (by repeat (first | (with_reducible first | exact K2.out | apply Tk.drewN | apply Tk.drew | apply tk_far N1.out.symm | apply tk_far N3.out))) hb); have K3n := Aside0.mk (Tk.call (by repeat (first | (with_reducible first | exact K3.out | apply Tk.drewN | apply Tk.drew | apply tk_far N2.out.symm))) hb); clear hb; clear HX HK K2 K3; have HX := HXn; have HK := HKn; have K2 := K2n; have K3 := K3n; clear HXn HKn K2n K3n; have hc0 := HX.out.s; have hc1 := HX.out.i; have hz1 := HX.out.fz; have ht0 := K3.out.c0; have ht1 := K3.out.c1; have ht2 := K3.out.c2; have ht3 := K3.out.c3; have hf0 := K3.out.fz 0; have hf1 := K3.out.fz 1; have hf2 := K3.out.fz 2; have hf3 := K3.out.fz 3; have hr0 := K2.out.c0; have hr1 := K2.out.c1; have hr2 := K2.out.c2; have hr3 := K2.out.c3; have hs0 := K2.out.fz 0; have hs1 := K2.out.fz 1; have hs2 := K2.out.fz 2; have hs3 := K2.out.fz 3) | (go_at_call 20; with_reducible refine (quotedE_calls k s g i _ HS.out HLT.out _ ?lx A4.out).mono ?_; (case lx => exact (by repeat (first | (with_reducible first | exact HX.out | apply Lx.drewN | apply Lx.drew | apply Lx.set | apply lx_far N2.out)))); intro e wd hqr; obtain ⟨rfl, hx, hk⟩ := hqr.out; rw [HTX.out]; have HXn := Aside0.mk hx; have HKn := Aside0.mk (Lk.trans (by repeat (first | (with_reducible first | exact HK.out | apply Lk.drewN | apply Lk.drew | apply Lk.set | apply lk_setN HB3.out))) hk); have K2n := Aside0.mk (Tk.lk (by repeat (first | (with_reducible first | exact K2.out | apply Tk.drewN | apply Tk.drew | apply tk_far N1.out.symm | apply tk_far N3.out))) hk N1.out.symm); have K3n := Aside0.mk (Tk.lk (by repeat (first | (with_reducible first | exact K3.out | apply Tk.drewN | apply Tk.drew | apply tk_far N2.out.symm))) hk N2.out.symm); clear hx hk; clear HX HK K2 K3; have HX := HXn; have HK := HKn; have K2 := K2n; have K3 := K3n; clear HXn HKn K2n K3n; have hc0 := HX.out.s; have hc1 := HX.out.i; have hz1 := HX.out.fz; have ht0 := K3.out.c0; have ht1 := K3.out.c1; have ht2 := K3.out.c2; have ht3 := K3.out.c3; have hf0 := K3.out.fz 0; have hf1 := K3.out.fz 1; have hf2 := K3.out.fz 2; have hf3 := K3.out.fz 3; have hr0 := K2.out.c0; have hr1 := K2.out.c1; have hr2 := K2.out.c2; have hr3 := K2.out.c3; have hs0 := K2.out.fz 0; have hs1 := K2.out.fz 1; have hs2 := K2.out.fz 2; have hs3 := K2.out.fz 3))
              refine bodyPost_ret (results_cell_row rfl _ _ b2 29 #[.int .i64 6, .int .i64 (i : Int), .string x, .string (⟨#[]⟩ : ByteArray)] (0, 0) _ rfl (show _ from Tk.set3 (Tk.set2 (Tk.set1 (Tk.set0 (by repeat (first | (with_reducible first | exact K2.out | apply Tk.drewN | apply Tk.drew | apply tk_far N1.out.symm | apply tk_far N3.out))) _) _) _) _) huT rfl (by kernel_rfl)) rfl ?_
              exact ⟨rfl, Lx.far (Lx.far (Lx.far (Lx.far (by repeat (first | (with_reducible first | exact HX.out | apply Lx.drewN | apply Lx.drew | apply Lx.set | apply lx_far N2.out))) N1.out _ _) N1.out _ _) N1.out _ _) N1.out _ _, Lk.setN (Lk.setN (Lk.setN (Lk.setN (by repeat (first | (with_reducible first | exact HK.out | apply Lk.drewN | apply Lk.drew | apply Lk.set | apply lk_setN HB3.out))) HS2.out _ _) HS2.out _ _) HS2.out _ _) HS2.out _ _⟩
          · rw [if_neg h4] at hf
            cases hf
        · rw [if_neg h3] at hf
          obtain ⟨q, hq, hf⟩ := Option.bind_eq_some_iff.mp hf
          have A3 := Aside0.mk hq
          clear hq
          by_cases h4 : q ≥ 0
          · rw [if_pos h4] at hf
            have p3 : (bt s (i : Nat) == 34) = false := by simpa using (fun e => h3 (Or.inl e))
            have p4 : (bt s (i : Nat) == 39) = false := by simpa using (fun e => h3 (Or.inr e))
            have p5 : decide (q ≥ 0) = true := decide_eq_true h4
            have p6 : decide (0 ≤ q) = true := decide_eq_true h4
            have hwi1 : wrap64 ((i : Int) + 1) = ((i + 1 : Nat) : Int) := by have := HLT.out; have := HS.out; unfold wrap64; omega
            obtain ⟨m, hm⟩ : ∃ m, i + 1 = m := ⟨_, rfl⟩
            rw [hm] at hwi1 hf
            have hwi2 : IntKind.i64.wrap ((i : Int) + 1) = (m : Int) := by rw [i64_w]; exact hwi1
            have q6 : ((i : Int) ≤ (m : Int)) = True := eq_true (by omega)
            have q7 : ((m : Int) ≤ (s.size : Int)) = True := eq_true (by have := HLT.out; omega)
            have hxs : (s.extract i m).size = 1 := by rw [ByteArray.size_extract]; have := HLT.out; omega
            obtain ⟨x, hx⟩ : ∃ x : ByteArray, s.extract i m = x := ⟨_, rfl⟩
            rw [hx] at hf hxs
            have p8 : decide ((x.size : Int) > 64) = false := decide_eq_false (by omega)
            have p9 : decide (64 < (x.size : Int)) = false := decide_eq_false (by omega)
            clear h3 h4 hm hxs
            obtain ⟨rfl, rfl, rfl, rfl⟩ : (7 : Int) = kd ∧ x = tx ∧ (⟨#[]⟩ : ByteArray) = nm ∧ m = j := by
              have h := Option.some.inj hf
              simp only [Prod.mk.injEq] at h
              exact h
            clear hf
            go_enter Try.func9, Try.ntmps9
            go_wp2_with (first | ((with_reducible refine gate_dst (N := 2) rfl ?_); (try (refine gate_guard (by rfl) ?_; dsimp only)); refine box_event ?hg (N := 2) ?hd (cs := #[.int .i64 0, .int .i64 0, .string (⟨#[]⟩ : ByteArray), .string (⟨#[]⟩ : ByteArray)]) (t := 29) ?hr ?_; (case hd => rfl); (case hg => rfl); (case hr => first | (go_simp; done) | (go_simp; rfl)); intro b2 hg w2 hbox hb; have HG2 := Aside0.mk hg; have K2 := Aside0.mk (show Tk w2 b2 0 0 ⟨#[]⟩ ⟨#[]⟩ from hbox); have HX2 := Aside0.mk (Lx.below HX.out hb); have HK2 := Aside0.mk (Lk.of_below (g := g) hb); clear hg hbox hb HX; have HX := HX2; have HK := HK2; clear HX2 HK2; have hc0 := HX.out.s; have hc1 := HX.out.i; have hz1 := HX.out.fz) | ((with_reducible refine gate_dst (N := 3) rfl ?_); (try (refine gate_guard (by rfl) ?_; dsimp only)); refine box_event ?hg (N := 3) ?hd (cs := #[.int .i64 0, .int .i64 0, .string (⟨#[]⟩ : ByteArray), .string (⟨#[]⟩ : ByteArray)]) (t := 29) ?hr ?_; (case hd => rfl); (case hg => rfl); (case hr => first | (go_simp; done) | (go_simp; rfl)); intro b3 hg w3 hbox hb; have HG3 := Aside0.mk hg; have K2L := Aside0.mk (Tk.lt K2.out); have K3 := Aside0.mk (show Tk w3 b3 0 0 ⟨#[]⟩ ⟨#[]⟩ from hbox); have HX2 := Aside0.mk (Lx.below HX.out hb); have HK2 := Aside0.mk (Lk.call HK.out hb); have K22 := Aside0.mk (Tk.call K2.out hb); clear hg hbox hb HX HK K2; have HX := HX2; have HK := HK2; have K2 := K22; clear HX2 HK2 K22; have ht0 := K3.out.c0; have ht1 := K3.out.c1; have ht2 := K3.out.c2; have ht3 := K3.out.c3; have hf0 := K3.out.fz 0; have hf1 := K3.out.fz 1; have hf2 := K3.out.fz 2; have hf3 := K3.out.fz 3))
            have HS2 := Aside0.mk (show w.heap.size ≤ b2 by rw [HG2.out]; exact Nat.le_refl _)
            have HS3 := Aside0.mk (show b2 < b3 by rw [HG3.out]; exact K2L.out)
            have N1 := Aside0.mk (show g ≠ b2 by have := HS2.out; have := HG.out; omega)
            have N2 := Aside0.mk (show g ≠ b3 by have := HS2.out; have := HS3.out; have := HG.out; omega)
            have N3 := Aside0.mk (show b2 ≠ b3 by have := HS3.out; omega)
            have HB3 := Aside0.mk (show w.heap.size ≤ b3 by have := HS2.out; have := HS3.out; omega)
            have HX4 : Aside0 (Lx ((((w3.setCell ⟨b3, 0, none⟩ (.int .i64 0)).setCell ⟨b3, 1, none⟩ (.int .i64 (i : Int))).setCell ⟨b3, 2, none⟩ (.string (⟨#[]⟩ : ByteArray))).setCell ⟨b3, 3, none⟩ (.string (⟨#[]⟩ : ByteArray))) g s i) := ⟨Lx.far (Lx.far (Lx.far (Lx.far HX.out N2.out _ _) N2.out _ _) N2.out _ _) N2.out _ _⟩
            have HK4 : Aside0 (Lk g w ((((w3.setCell ⟨b3, 0, none⟩ (.int .i64 0)).setCell ⟨b3, 1, none⟩ (.int .i64 (i : Int))).setCell ⟨b3, 2, none⟩ (.string (⟨#[]⟩ : ByteArray))).setCell ⟨b3, 3, none⟩ (.string (⟨#[]⟩ : ByteArray)))) := ⟨Lk.setN (Lk.setN (Lk.setN (Lk.setN HK.out HB3.out _ _) HB3.out _ _) HB3.out _ _) HB3.out _ _⟩
            have K24 : Aside0 (Tk ((((w3.setCell ⟨b3, 0, none⟩ (.int .i64 0)).setCell ⟨b3, 1, none⟩ (.int .i64 (i : Int))).setCell ⟨b3, 2, none⟩ (.string (⟨#[]⟩ : ByteArray))).setCell ⟨b3, 3, none⟩ (.string (⟨#[]⟩ : ByteArray))) b2 0 0 ⟨#[]⟩ ⟨#[]⟩) := ⟨Tk.far (Tk.far (Tk.far (Tk.far K2.out N3.out _ _) N3.out _ _) N3.out _ _) N3.out _ _⟩
            have K34 : Aside0 (Tk ((((w3.setCell ⟨b3, 0, none⟩ (.int .i64 0)).setCell ⟨b3, 1, none⟩ (.int .i64 (i : Int))).setCell ⟨b3, 2, none⟩ (.string (⟨#[]⟩ : ByteArray))).setCell ⟨b3, 3, none⟩ (.string (⟨#[]⟩ : ByteArray))) b3 0 (i : Int) ⟨#[]⟩ ⟨#[]⟩) := ⟨Tk.set3 (Tk.set2 (Tk.set1 (Tk.set0 K3.out _) _) _) _⟩
            clear HX HK K2 K3 hc0 hc1 hz1 ht0 ht1 ht2 ht3 hf0 hf1 hf2 hf3
            generalize ((((w3.setCell ⟨b3, 0, none⟩ (.int .i64 0)).setCell ⟨b3, 1, none⟩ (.int .i64 (i : Int))).setCell ⟨b3, 2, none⟩ (.string (⟨#[]⟩ : ByteArray))).setCell ⟨b3, 3, none⟩ (.string (⟨#[]⟩ : ByteArray))) = w4 at HX4 HK4 K24 K34 ⊢
            have hc0 := HX4.out.s
            have hc1 := HX4.out.i
            go_wp2
            refine wp_region_quiet_lit (by kernel_rfl) (by kernel_rfl) ?_
            repeat (go_big_quiet_step (fail))
            refine wpQuiet_nil ?_
            intro _ hw'
            obtain ⟨nq, hw''⟩ := hw'
            subst hw''
            go_wp2
            have HX5 : Aside0 (Lx (w4.drewN nq).drew g s i) := ⟨HX4.out⟩
            have HK5 : Aside0 (Lk g w (w4.drewN nq).drew) := ⟨(HK4.out.drewN nq).drew⟩
            have K25 : Aside0 (Tk (w4.drewN nq).drew b2 0 0 ⟨#[]⟩ ⟨#[]⟩) := ⟨K24.out⟩
            have K35 : Aside0 (Tk (w4.drewN nq).drew b3 0 (i : Int) ⟨#[]⟩ ⟨#[]⟩) := ⟨K34.out⟩
            clear HX4 HK4 K24 K34 hc0 hc1
            refine start_ (n := 11) (S := (fun w' => w'.cell? ⟨g, 0, none⟩ = some (.string s) ∧ w'.cell? ⟨g, 1, none⟩ = some (.int .i64 (i : Int)))) (ds := []) #[false, false, false, false, false, false, false, false, false, false, false] (by kernel_rfl) rfl rfl ⟨HX5.out.s, HX5.out.i⟩ (fun hHeld => ?_)
            refine with_tabW lexer_word.tab4 lexer_word.bits4 (fun HT_ HW_ => ?_)
            generalize (w4.drewN nq).drew = w5 at HX5 HK5 K25 K35 hHeld ⊢
            refine pus_ 0 (some 21) #[true, false, false, false, false, false, false, false, false, false, false] rfl rfl HT_.out ?_
            refine pus_ 1 (some 22) #[true, true, false, false, false, false, false, false, false, false, false] rfl rfl HT_.out ?_
            refine pus_ 2 (some 23) #[true, true, true, false, false, false, false, false, false, false, false] rfl rfl HT_.out ?_
            refine tas_ 3 (some 24) #[true, true, true, true, false, false, false, false, false, false, false] rfl rfl HT_.out HW_.out hHeld ?_
            refine pus_ 4 (some 25) #[true, true, true, true, true, false, false, false, false, false, false] rfl rfl HT_.out ?_
            refine pus_ 5 (some 26) #[true, true, true, true, true, true, false, false, false, false, false] rfl rfl HT_.out ?_
            refine pus_ 6 (some 27) #[true, true, true, true, true, true, true, false, false, false, false] rfl rfl HT_.out ?_
            refine tas_ 7 (some 28) #[true, true, true, true, true, true, true, true, false, false, false] rfl rfl HT_.out HW_.out hHeld ?_
            refine pus_ 8 (some 29) #[true, true, true, true, true, true, true, true, true, false, false] rfl rfl HT_.out ?_
            refine one_ (i := 9) (N := (some 30)) #[true, true, true, true, true, true, true, true, true, true, false] rfl rfl (one_of HT_.out (by kernel_rfl)) (by decide) (fun K hK => ?_)
            refine goes_ Try.func14 (by kernel_rfl) rfl #[.string (s.extract i s.size)] (by rfl) rfl rfl goa_ ?_
            refine (number_Scan.calls _ n _ A1.out).mono ?_
            rintro e w6 ⟨rfl, hb⟩
            refine ⟨_, rfl, ?_⟩
            have HX := Aside0.mk (HX5.out.below hb)
            have HK := Aside0.mk (HK5.out.call hb)
            have K2 := Aside0.mk (K25.out.call hb)
            have K3 := Aside0.mk (K35.out.call hb)
            clear hb HX5 HK5 K25 K35
            refine hK.out _ _ ⟨HX.out.s, HX.out.i⟩ (fun hHeld => ?_)
            clear hK K
            refine norm_ (a' := ?_) ?_ ?_
            rotate_left
            ·show Act.put _ (some 30) _ = _
             simp only [Act.put, List.setIfInBounds_toArray, List.set_cons_zero, List.set_cons_succ, i64_w, i32_w]
             rfl
            refine pus_ 10 (some 6) #[true, true, true, true, true, true, true, true, true, true, true] rfl rfl HT_.out ?_
            refine done_ (done_of HT_.out (by kernel_rfl)) ?_
            clear hHeld HT_ HW_
            have hc0 := HX.out.s
            have hc1 := HX.out.i
            have hz1 := HX.out.fz
            have ht0 := K3.out.c0
            have ht1 := K3.out.c1
            have ht2 := K3.out.c2
            have ht3 := K3.out.c3
            have hf0 := K3.out.fz 0
            have hf1 := K3.out.fz 1
            have hf2 := K3.out.fz 2
            have hf3 := K3.out.fz 3
            have hne := N2.out
            have hne2 := N2.out.symm
            have hne3 := N1.out
            have hne4 := N1.out.symm
            have hne5 := N3.out
            have hne6 := N3.out.symm
            go_wp2_with (first | (go_at_call 17; with_reducible refine (begins_calls k s g i HS.out HII.out _ _ ?lx A2.out).mono ?_; (case lx => exact (by repeat (first | (with_reducible first | exact HX.out | apply Lx.drewN | apply Lx.drew | apply Lx.set | apply lx_far N2.out)))); rintro e wb ⟨rfl, hb⟩; have HXn := Aside0.mk (Lx.below (by repeat (first | (with_reducible first | exact HX.out | apply Lx.drewN | apply Lx.drew | apply Lx.set | apply lx_far N2.out))) hb); have HKn := Aside0.mk (Lk.call (by repeat (first | (with_reducible first | exact HK.out | apply Lk.drewN | apply Lk.drew | apply Lk.set | apply lk_setN HB3.out))) hb); have K2n := Aside0.mk (Tk.call (by repeat (first | (with_reducible first | exact K2.out | apply Tk.drewN | apply Tk.drew | apply tk_far N1.out.symm | apply tk_far N3.out))) hb); have K3n := Aside0.mk (Tk.call (by repeat (first | (with_reducible first | exact K3.out | apply Tk.drewN | apply Tk.drew | apply tk_far N2.out.symm))) hb); clear hb; clear HX HK K2 K3; have HX := HXn; have HK := HKn; have K2 := K2n; have K3 := K3n; clear HXn HKn K2n K3n; have hc0 := HX.out.s; have hc1 := HX.out.i; have hz1 := HX.out.fz; have ht0 := K3.out.c0; have ht1 := K3.out.c1; have ht2 := K3.out.c2; have ht3 := K3.out.c3; have hf0 := K3.out.fz 0; have hf1 := K3.out.fz 1; have hf2 := K3.out.fz 2; have hf3 := K3.out.fz 3; have hr0 := K2.out.c0; have hr1 := K2.out.c1; have hr2 := K2.out.c2; have hr3 := K2.out.c3; have hs0 := K2.out.fz 0; have hs1 := K2.out.fz 1; have hs2 := K2.out.fz 2; have hs3 := K2.out.fz 3) | (go_at_call 21; refine (strings_IndexByte.calls _ _ _ _ A3.out).mono ?_; rintro e wq ⟨rfl, ⟨nx, rfl⟩⟩))
            go_region
            go_wp2
            refine bodyPost_ret (results_cell_row rfl _ _ b2 29 #[.int .i64 7, .int .i64 (i : Int), .string x, .string (⟨#[]⟩ : ByteArray)] (0, 0) _ rfl (show _ from Tk.set3 (Tk.set2 (Tk.set1 (Tk.set0 (by repeat (first | (with_reducible first | exact K2.out | apply Tk.drewN | apply Tk.drew | apply tk_far N1.out.symm | apply tk_far N3.out))) _) _) _) _) huT rfl (by kernel_rfl)) rfl ?_
            exact ⟨rfl, Lx.far (Lx.far (Lx.far (Lx.far (Lx.setv (by repeat (first | (with_reducible first | exact HX.out | apply Lx.drewN | apply Lx.drew | apply Lx.set | apply lx_far N2.out))) (by first | with_reducible rfl | with_reducible exact hwi1)) N1.out _ _) N1.out _ _) N1.out _ _) N1.out _ _, Lk.setN (Lk.setN (Lk.setN (Lk.setN (by repeat (first | (with_reducible first | exact HK.out | apply Lk.drewN | apply Lk.drew | apply Lk.set | apply lk_setN HB3.out))) HS2.out _ _) HS2.out _ _) HS2.out _ _) HS2.out _ _⟩
          · rw [if_neg h4] at hf
            cases hf
      · rw [if_pos rfl] at hf
        obtain ⟨⟨l, e⟩, ht, hf⟩ := Option.bind_eq_some_iff.mp hf
        have A4 := Aside0.mk ht
        clear ht
        try dsimp only at hf
        by_cases h3 : l.length ≤ 64 ∧ e ≤ s.size
        · rw [if_pos h3] at hf
          obtain ⟨p, hp, hf⟩ := Option.bind_eq_some_iff.mp hf
          have A5 := Aside0.mk hp
          clear hp
          obtain ⟨x, hx⟩ : ∃ x : ByteArray, (⟨l.toArray⟩ : ByteArray) = x := ⟨_, rfl⟩
          have HTX := Aside0.mk hx
          have hxs : x.size ≤ 64 := by
            rw [← hx]
            show l.toArray.size ≤ 64
            rw [List.size_toArray]
            exact h3.1
          have p8 : decide ((x.size : Int) > 64) = false := decide_eq_false (by omega)
          have p9 : decide (64 < (x.size : Int)) = false := decide_eq_false (by omega)
          have HE := Aside0.mk h3.2
          have HWE := Aside0.mk (show IntKind.i64.wrap (e : Int) = (e : Int) from wrapE e 0 (by have := HE.out; have := HS.out; omega))
          have hwe1 : wrap64 ((e : Int) + 1) = ((e + 1 : Nat) : Int) := by have := HE.out; have := HS.out; unfold wrap64; omega
          rw [hx] at hf
          clear h3 hxs hx
          cases p
          · rw [if_neg (by decide)] at hf
            obtain ⟨rfl, rfl, rfl, rfl⟩ : (1 : Int) = kd ∧ x = tx ∧ (⟨#[]⟩ : ByteArray) = nm ∧ e = j := by
              have h := Option.some.inj hf
              simp only [Prod.mk.injEq] at h
              exact h
            clear hf
            go_enter Try.func9, Try.ntmps9
            go_wp2_with (first | ((with_reducible refine gate_dst (N := 2) rfl ?_); (try (refine gate_guard (by rfl) ?_; dsimp only)); refine box_event ?hg (N := 2) ?hd (cs := #[.int .i64 0, .int .i64 0, .string (⟨#[]⟩ : ByteArray), .string (⟨#[]⟩ : ByteArray)]) (t := 29) ?hr ?_; (case hd => rfl); (case hg => rfl); (case hr => first | (go_simp; done) | (go_simp; rfl)); intro b2 hg w2 hbox hb; have HG2 := Aside0.mk hg; have K2 := Aside0.mk (show Tk w2 b2 0 0 ⟨#[]⟩ ⟨#[]⟩ from hbox); have HX2 := Aside0.mk (Lx.below HX.out hb); have HK2 := Aside0.mk (Lk.of_below (g := g) hb); clear hg hbox hb HX; have HX := HX2; have HK := HK2; clear HX2 HK2; have hc0 := HX.out.s; have hc1 := HX.out.i; have hz1 := HX.out.fz) | ((with_reducible refine gate_dst (N := 3) rfl ?_); (try (refine gate_guard (by rfl) ?_; dsimp only)); refine box_event ?hg (N := 3) ?hd (cs := #[.int .i64 0, .int .i64 0, .string (⟨#[]⟩ : ByteArray), .string (⟨#[]⟩ : ByteArray)]) (t := 29) ?hr ?_; (case hd => rfl); (case hg => rfl); (case hr => first | (go_simp; done) | (go_simp; rfl)); intro b3 hg w3 hbox hb; have HG3 := Aside0.mk hg; have K2L := Aside0.mk (Tk.lt K2.out); have K3 := Aside0.mk (show Tk w3 b3 0 0 ⟨#[]⟩ ⟨#[]⟩ from hbox); have HX2 := Aside0.mk (Lx.below HX.out hb); have HK2 := Aside0.mk (Lk.call HK.out hb); have K22 := Aside0.mk (Tk.call K2.out hb); clear hg hbox hb HX HK K2; have HX := HX2; have HK := HK2; have K2 := K22; clear HX2 HK2 K22; have ht0 := K3.out.c0; have ht1 := K3.out.c1; have ht2 := K3.out.c2; have ht3 := K3.out.c3; have hf0 := K3.out.fz 0; have hf1 := K3.out.fz 1; have hf2 := K3.out.fz 2; have hf3 := K3.out.fz 3))
            have HS2 := Aside0.mk (show w.heap.size ≤ b2 by rw [HG2.out]; exact Nat.le_refl _)
            have HS3 := Aside0.mk (show b2 < b3 by rw [HG3.out]; exact K2L.out)
            have N1 := Aside0.mk (show g ≠ b2 by have := HS2.out; have := HG.out; omega)
            have N2 := Aside0.mk (show g ≠ b3 by have := HS2.out; have := HS3.out; have := HG.out; omega)
            have N3 := Aside0.mk (show b2 ≠ b3 by have := HS3.out; omega)
            have HB3 := Aside0.mk (show w.heap.size ≤ b3 by have := HS2.out; have := HS3.out; omega)
            have HX4 : Aside0 (Lx ((((w3.setCell ⟨b3, 0, none⟩ (.int .i64 0)).setCell ⟨b3, 1, none⟩ (.int .i64 (i : Int))).setCell ⟨b3, 2, none⟩ (.string (⟨#[]⟩ : ByteArray))).setCell ⟨b3, 3, none⟩ (.string (⟨#[]⟩ : ByteArray))) g s i) := ⟨Lx.far (Lx.far (Lx.far (Lx.far HX.out N2.out _ _) N2.out _ _) N2.out _ _) N2.out _ _⟩
            have HK4 : Aside0 (Lk g w ((((w3.setCell ⟨b3, 0, none⟩ (.int .i64 0)).setCell ⟨b3, 1, none⟩ (.int .i64 (i : Int))).setCell ⟨b3, 2, none⟩ (.string (⟨#[]⟩ : ByteArray))).setCell ⟨b3, 3, none⟩ (.string (⟨#[]⟩ : ByteArray)))) := ⟨Lk.setN (Lk.setN (Lk.setN (Lk.setN HK.out HB3.out _ _) HB3.out _ _) HB3.out _ _) HB3.out _ _⟩
            have K24 : Aside0 (Tk ((((w3.setCell ⟨b3, 0, none⟩ (.int .i64 0)).setCell ⟨b3, 1, none⟩ (.int .i64 (i : Int))).setCell ⟨b3, 2, none⟩ (.string (⟨#[]⟩ : ByteArray))).setCell ⟨b3, 3, none⟩ (.string (⟨#[]⟩ : ByteArray))) b2 0 0 ⟨#[]⟩ ⟨#[]⟩) := ⟨Tk.far (Tk.far (Tk.far (Tk.far K2.out N3.out _ _) N3.out _ _) N3.out _ _) N3.out _ _⟩
            have K34 : Aside0 (Tk ((((w3.setCell ⟨b3, 0, none⟩ (.int .i64 0)).setCell ⟨b3, 1, none⟩ (.int .i64 (i : Int))).setCell ⟨b3, 2, none⟩ (.string (⟨#[]⟩ : ByteArray))).setCell ⟨b3, 3, none⟩ (.string (⟨#[]⟩ : ByteArray))) b3 0 (i : Int) ⟨#[]⟩ ⟨#[]⟩) := ⟨Tk.set3 (Tk.set2 (Tk.set1 (Tk.set0 K3.out _) _) _) _⟩
            clear HX HK K2 K3 hc0 hc1 hz1 ht0 ht1 ht2 ht3 hf0 hf1 hf2 hf3
            generalize ((((w3.setCell ⟨b3, 0, none⟩ (.int .i64 0)).setCell ⟨b3, 1, none⟩ (.int .i64 (i : Int))).setCell ⟨b3, 2, none⟩ (.string (⟨#[]⟩ : ByteArray))).setCell ⟨b3, 3, none⟩ (.string (⟨#[]⟩ : ByteArray))) = w4 at HX4 HK4 K24 K34 ⊢
            have hc0 := HX4.out.s
            have hc1 := HX4.out.i
            go_wp2
            refine wp_region_quiet_lit (by kernel_rfl) (by kernel_rfl) ?_
            repeat (go_big_quiet_step (fail))
            refine wpQuiet_nil ?_
            intro _ hw'
            obtain ⟨nq, hw''⟩ := hw'
            subst hw''
            go_wp2
            have HX5 : Aside0 (Lx (w4.drewN nq).drew g s i) := ⟨HX4.out⟩
            have HK5 : Aside0 (Lk g w (w4.drewN nq).drew) := ⟨(HK4.out.drewN nq).drew⟩
            have K25 : Aside0 (Tk (w4.drewN nq).drew b2 0 0 ⟨#[]⟩ ⟨#[]⟩) := ⟨K24.out⟩
            have K35 : Aside0 (Tk (w4.drewN nq).drew b3 0 (i : Int) ⟨#[]⟩ ⟨#[]⟩) := ⟨K34.out⟩
            clear HX4 HK4 K24 K34 hc0 hc1
            refine start_ (n := 11) (S := (fun w' => w'.cell? ⟨g, 0, none⟩ = some (.string s) ∧ w'.cell? ⟨g, 1, none⟩ = some (.int .i64 (i : Int)))) (ds := []) #[false, false, false, false, false, false, false, false, false, false, false] (by kernel_rfl) rfl rfl ⟨HX5.out.s, HX5.out.i⟩ (fun hHeld => ?_)
            refine with_tabW lexer_word.tab4 lexer_word.bits4 (fun HT_ HW_ => ?_)
            generalize (w4.drewN nq).drew = w5 at HX5 HK5 K25 K35 hHeld ⊢
            refine pus_ 0 (some 21) #[true, false, false, false, false, false, false, false, false, false, false] rfl rfl HT_.out ?_
            refine pus_ 1 (some 22) #[true, true, false, false, false, false, false, false, false, false, false] rfl rfl HT_.out ?_
            refine pus_ 2 (some 23) #[true, true, true, false, false, false, false, false, false, false, false] rfl rfl HT_.out ?_
            refine tas_ 3 (some 24) #[true, true, true, true, false, false, false, false, false, false, false] rfl rfl HT_.out HW_.out hHeld ?_
            refine pus_ 4 (some 25) #[true, true, true, true, true, false, false, false, false, false, false] rfl rfl HT_.out ?_
            refine pus_ 5 (some 26) #[true, true, true, true, true, true, false, false, false, false, false] rfl rfl HT_.out ?_
            refine pus_ 6 (some 27) #[true, true, true, true, true, true, true, false, false, false, false] rfl rfl HT_.out ?_
            refine tas_ 7 (some 28) #[true, true, true, true, true, true, true, true, false, false, false] rfl rfl HT_.out HW_.out hHeld ?_
            refine pus_ 8 (some 29) #[true, true, true, true, true, true, true, true, true, false, false] rfl rfl HT_.out ?_
            refine one_ (i := 9) (N := (some 30)) #[true, true, true, true, true, true, true, true, true, true, false] rfl rfl (one_of HT_.out (by kernel_rfl)) (by decide) (fun K hK => ?_)
            refine goes_ Try.func14 (by kernel_rfl) rfl #[.string (s.extract i s.size)] (by rfl) rfl rfl goa_ ?_
            refine (number_Scan.calls _ n _ A1.out).mono ?_
            rintro e w6 ⟨rfl, hb⟩
            refine ⟨_, rfl, ?_⟩
            have HX := Aside0.mk (HX5.out.below hb)
            have HK := Aside0.mk (HK5.out.call hb)
            have K2 := Aside0.mk (K25.out.call hb)
            have K3 := Aside0.mk (K35.out.call hb)
            clear hb HX5 HK5 K25 K35
            refine hK.out _ _ ⟨HX.out.s, HX.out.i⟩ (fun hHeld => ?_)
            clear hK K
            refine norm_ (a' := ?_) ?_ ?_
            rotate_left
            ·show Act.put _ (some 30) _ = _
             simp only [Act.put, List.setIfInBounds_toArray, List.set_cons_zero, List.set_cons_succ, i64_w, i32_w]
             rfl
            refine pus_ 10 (some 6) #[true, true, true, true, true, true, true, true, true, true, true] rfl rfl HT_.out ?_
            refine done_ (done_of HT_.out (by kernel_rfl)) ?_
            clear hHeld HT_ HW_
            have hc0 := HX.out.s
            have hc1 := HX.out.i
            have hz1 := HX.out.fz
            have ht0 := K3.out.c0
            have ht1 := K3.out.c1
            have ht2 := K3.out.c2
            have ht3 := K3.out.c3
            have hf0 := K3.out.fz 0
            have hf1 := K3.out.fz 1
            have hf2 := K3.out.fz 2
            have hf3 := K3.out.fz 3
            have hne := N2.out
            have hne2 := N2.out.symm
            have hne3 := N1.out
            have hne4 := N1.out.symm
            have hne5 := N3.out
            have hne6 := N3.out.symm
            go_wp2_with (first | (go_at_call 17; with_reducible refine (begins_calls k s g i HS.out HII.out _ _ ?lx A2.out).mono ?_; (case lx => exact (by repeat (first | (with_reducible first | exact HX.out | apply Lx.drewN | apply Lx.drew | apply Lx.set | apply lx_far N2.out)))); rintro e wb ⟨rfl, hb⟩; have HXn := Aside0.mk (Lx.below (by repeat (first | (with_reducible first | exact HX.out | apply Lx.drewN | apply Lx.drew | apply Lx.set | apply lx_far N2.out))) hb); have HKn := Aside0.mk (Lk.call (by repeat (first | (with_reducible first | exact HK.out | apply Lk.drewN | apply Lk.drew | apply Lk.set | apply lk_setN HB3.out))) hb); have K2n := Aside0.mk (Tk.call (by repeat (first | (with_reducible first | exact K2.out | apply Tk.drewN | apply Tk.drew | apply tk_far N1.out.symm | apply tk_far N3.out))) hb); have K3n := Aside0.mk (Tk.call (by repeat (first | (with_reducible first | exact K3.out | apply Tk.drewN | apply Tk.drew | apply tk_far N2.out.symm))) hb); clear hb; clear HX HK K2 K3; have HX := HXn; have HK := HKn; have K2 := K2n; have K3 := K3n; clear HXn HKn K2n K3n; have hc0 := HX.out.s; have hc1 := HX.out.i; have hz1 := HX.out.fz; have ht0 := K3.out.c0; have ht1 := K3.out.c1; have ht2 := K3.out.c2; have ht3 := K3.out.c3; have hf0 := K3.out.fz 0; have hf1 := K3.out.fz 1; have hf2 := K3.out.fz 2; have hf3 := K3.out.fz 3; have hr0 := K2.out.c0; have hr1 := K2.out.c1; have hr2 := K2.out.c2; have hr3 := K2.out.c3; have hs0 := K2.out.fz 0; have hs1 := K2.out.fz 1; have hs2 := K2.out.fz 2; have hs3 := K2.out.fz 3) | (go_at_call 18; with_reducible refine (ident_calls k s g i _ _ HS.out HII.out _ ?lx A4.out).mono ?_; (case lx => exact (by repeat (first | (with_reducible first | exact HX.out | apply Lx.drewN | apply Lx.drew | apply Lx.set | apply lx_far N2.out)))); rintro e wd ⟨rfl, hx, hk⟩; rw [HTX.out]; have HXn := Aside0.mk hx; have HKn := Aside0.mk (Lk.trans (by repeat (first | (with_reducible first | exact HK.out | apply Lk.drewN | apply Lk.drew | apply Lk.set | apply lk_setN HB3.out))) hk); have K2n := Aside0.mk (Tk.lk (by repeat (first | (with_reducible first | exact K2.out | apply Tk.drewN | apply Tk.drew | apply tk_far N1.out.symm | apply tk_far N3.out))) hk N1.out.symm); have K3n := Aside0.mk (Tk.lk (by repeat (first | (with_reducible first | exact K3.out | apply Tk.drewN | apply Tk.drew | apply tk_far N2.out.symm))) hk N2.out.symm); clear hx hk; clear HX HK K2 K3; have HX := HXn; have HK := HKn; have K2 := K2n; have K3 := K3n; clear HXn HKn K2n K3n; have hc0 := HX.out.s; have hc1 := HX.out.i; have hz1 := HX.out.fz; have ht0 := K3.out.c0; have ht1 := K3.out.c1; have ht2 := K3.out.c2; have ht3 := K3.out.c3; have hf0 := K3.out.fz 0; have hf1 := K3.out.fz 1; have hf2 := K3.out.fz 2; have hf3 := K3.out.fz 3; have hr0 := K2.out.c0; have hr1 := K2.out.c1; have hr2 := K2.out.c2; have hr3 := K2.out.c3; have hs0 := K2.out.fz 0; have hs1 := K2.out.fz 1; have hs2 := K2.out.fz 2; have hs3 := K2.out.fz 3) | (go_at_call 15; with_reducible refine (is_paren0 s g e e HS.out HWE.out _ _ ?lx A5.out).mono ?_; (case lx => exact (by repeat (first | (with_reducible first | exact HX.out | apply Lx.drewN | apply Lx.drew | apply Lx.set | apply lx_far N2.out)))); rintro e wi ⟨rfl, ⟨ni, rfl⟩⟩))
            refine bodyPost_ret (results_cell_row rfl _ _ b2 29 #[.int .i64 1, .int .i64 (i : Int), .string x, .string (⟨#[]⟩ : ByteArray)] (0, 0) _ rfl (show _ from Tk.set3 (Tk.set2 (Tk.set1 (Tk.set0 (by repeat (first | (with_reducible first | exact K2.out | apply Tk.drewN | apply Tk.drew | apply tk_far N1.out.symm | apply tk_far N3.out))) _) _) _) _) huT rfl (by kernel_rfl)) rfl ?_
            exact ⟨rfl, Lx.far (Lx.far (Lx.far (Lx.far (by repeat (first | (with_reducible first | exact HX.out | apply Lx.drewN | apply Lx.drew | apply Lx.set | apply lx_far N2.out))) N1.out _ _) N1.out _ _) N1.out _ _) N1.out _ _, Lk.setN (Lk.setN (Lk.setN (Lk.setN (by repeat (first | (with_reducible first | exact HK.out | apply Lk.drewN | apply Lk.drew | apply Lk.set | apply lk_setN HB3.out))) HS2.out _ _) HS2.out _ _) HS2.out _ _) HS2.out _ _⟩
          · rw [if_pos rfl] at hf
            obtain ⟨rfl, rfl, rfl, rfl⟩ : (2 : Int) = kd ∧ x = tx ∧ (⟨#[]⟩ : ByteArray) = nm ∧ e + 1 = j := by
              have h := Option.some.inj hf
              simp only [Prod.mk.injEq] at h
              exact h
            clear hf
            go_enter Try.func9, Try.ntmps9
            go_wp2_with (first | ((with_reducible refine gate_dst (N := 2) rfl ?_); (try (refine gate_guard (by rfl) ?_; dsimp only)); refine box_event ?hg (N := 2) ?hd (cs := #[.int .i64 0, .int .i64 0, .string (⟨#[]⟩ : ByteArray), .string (⟨#[]⟩ : ByteArray)]) (t := 29) ?hr ?_; (case hd => rfl); (case hg => rfl); (case hr => first | (go_simp; done) | (go_simp; rfl)); intro b2 hg w2 hbox hb; have HG2 := Aside0.mk hg; have K2 := Aside0.mk (show Tk w2 b2 0 0 ⟨#[]⟩ ⟨#[]⟩ from hbox); have HX2 := Aside0.mk (Lx.below HX.out hb); have HK2 := Aside0.mk (Lk.of_below (g := g) hb); clear hg hbox hb HX; have HX := HX2; have HK := HK2; clear HX2 HK2; have hc0 := HX.out.s; have hc1 := HX.out.i; have hz1 := HX.out.fz) | ((with_reducible refine gate_dst (N := 3) rfl ?_); (try (refine gate_guard (by rfl) ?_; dsimp only)); refine box_event ?hg (N := 3) ?hd (cs := #[.int .i64 0, .int .i64 0, .string (⟨#[]⟩ : ByteArray), .string (⟨#[]⟩ : ByteArray)]) (t := 29) ?hr ?_; (case hd => rfl); (case hg => rfl); (case hr => first | (go_simp; done) | (go_simp; rfl)); intro b3 hg w3 hbox hb; have HG3 := Aside0.mk hg; have K2L := Aside0.mk (Tk.lt K2.out); have K3 := Aside0.mk (show Tk w3 b3 0 0 ⟨#[]⟩ ⟨#[]⟩ from hbox); have HX2 := Aside0.mk (Lx.below HX.out hb); have HK2 := Aside0.mk (Lk.call HK.out hb); have K22 := Aside0.mk (Tk.call K2.out hb); clear hg hbox hb HX HK K2; have HX := HX2; have HK := HK2; have K2 := K22; clear HX2 HK2 K22; have ht0 := K3.out.c0; have ht1 := K3.out.c1; have ht2 := K3.out.c2; have ht3 := K3.out.c3; have hf0 := K3.out.fz 0; have hf1 := K3.out.fz 1; have hf2 := K3.out.fz 2; have hf3 := K3.out.fz 3))
            have HS2 := Aside0.mk (show w.heap.size ≤ b2 by rw [HG2.out]; exact Nat.le_refl _)
            have HS3 := Aside0.mk (show b2 < b3 by rw [HG3.out]; exact K2L.out)
            have N1 := Aside0.mk (show g ≠ b2 by have := HS2.out; have := HG.out; omega)
            have N2 := Aside0.mk (show g ≠ b3 by have := HS2.out; have := HS3.out; have := HG.out; omega)
            have N3 := Aside0.mk (show b2 ≠ b3 by have := HS3.out; omega)
            have HB3 := Aside0.mk (show w.heap.size ≤ b3 by have := HS2.out; have := HS3.out; omega)
            have HX4 : Aside0 (Lx ((((w3.setCell ⟨b3, 0, none⟩ (.int .i64 0)).setCell ⟨b3, 1, none⟩ (.int .i64 (i : Int))).setCell ⟨b3, 2, none⟩ (.string (⟨#[]⟩ : ByteArray))).setCell ⟨b3, 3, none⟩ (.string (⟨#[]⟩ : ByteArray))) g s i) := ⟨Lx.far (Lx.far (Lx.far (Lx.far HX.out N2.out _ _) N2.out _ _) N2.out _ _) N2.out _ _⟩
            have HK4 : Aside0 (Lk g w ((((w3.setCell ⟨b3, 0, none⟩ (.int .i64 0)).setCell ⟨b3, 1, none⟩ (.int .i64 (i : Int))).setCell ⟨b3, 2, none⟩ (.string (⟨#[]⟩ : ByteArray))).setCell ⟨b3, 3, none⟩ (.string (⟨#[]⟩ : ByteArray)))) := ⟨Lk.setN (Lk.setN (Lk.setN (Lk.setN HK.out HB3.out _ _) HB3.out _ _) HB3.out _ _) HB3.out _ _⟩
            have K24 : Aside0 (Tk ((((w3.setCell ⟨b3, 0, none⟩ (.int .i64 0)).setCell ⟨b3, 1, none⟩ (.int .i64 (i : Int))).setCell ⟨b3, 2, none⟩ (.string (⟨#[]⟩ : ByteArray))).setCell ⟨b3, 3, none⟩ (.string (⟨#[]⟩ : ByteArray))) b2 0 0 ⟨#[]⟩ ⟨#[]⟩) := ⟨Tk.far (Tk.far (Tk.far (Tk.far K2.out N3.out _ _) N3.out _ _) N3.out _ _) N3.out _ _⟩
            have K34 : Aside0 (Tk ((((w3.setCell ⟨b3, 0, none⟩ (.int .i64 0)).setCell ⟨b3, 1, none⟩ (.int .i64 (i : Int))).setCell ⟨b3, 2, none⟩ (.string (⟨#[]⟩ : ByteArray))).setCell ⟨b3, 3, none⟩ (.string (⟨#[]⟩ : ByteArray))) b3 0 (i : Int) ⟨#[]⟩ ⟨#[]⟩) := ⟨Tk.set3 (Tk.set2 (Tk.set1 (Tk.set0 K3.out _) _) _) _⟩
            clear HX HK K2 K3 hc0 hc1 hz1 ht0 ht1 ht2 ht3 hf0 hf1 hf2 hf3
            generalize ((((w3.setCell ⟨b3, 0, none⟩ (.int .i64 0)).setCell ⟨b3, 1, none⟩ (.int .i64 (i : Int))).setCell ⟨b3, 2, none⟩ (.string (⟨#[]⟩ : ByteArray))).setCell ⟨b3, 3, none⟩ (.string (⟨#[]⟩ : ByteArray))) = w4 at HX4 HK4 K24 K34 ⊢
            have hc0 := HX4.out.s
            have hc1 := HX4.out.i
            go_wp2
            refine wp_region_quiet_lit (by kernel_rfl) (by kernel_rfl) ?_
            repeat (go_big_quiet_step (fail))
            refine wpQuiet_nil ?_
            intro _ hw'
            obtain ⟨nq, hw''⟩ := hw'
            subst hw''
            go_wp2
            have HX5 : Aside0 (Lx (w4.drewN nq).drew g s i) := ⟨HX4.out⟩
            have HK5 : Aside0 (Lk g w (w4.drewN nq).drew) := ⟨(HK4.out.drewN nq).drew⟩
            have K25 : Aside0 (Tk (w4.drewN nq).drew b2 0 0 ⟨#[]⟩ ⟨#[]⟩) := ⟨K24.out⟩
            have K35 : Aside0 (Tk (w4.drewN nq).drew b3 0 (i : Int) ⟨#[]⟩ ⟨#[]⟩) := ⟨K34.out⟩
            clear HX4 HK4 K24 K34 hc0 hc1
            refine start_ (n := 11) (S := (fun w' => w'.cell? ⟨g, 0, none⟩ = some (.string s) ∧ w'.cell? ⟨g, 1, none⟩ = some (.int .i64 (i : Int)))) (ds := []) #[false, false, false, false, false, false, false, false, false, false, false] (by kernel_rfl) rfl rfl ⟨HX5.out.s, HX5.out.i⟩ (fun hHeld => ?_)
            refine with_tabW lexer_word.tab4 lexer_word.bits4 (fun HT_ HW_ => ?_)
            generalize (w4.drewN nq).drew = w5 at HX5 HK5 K25 K35 hHeld ⊢
            refine pus_ 0 (some 21) #[true, false, false, false, false, false, false, false, false, false, false] rfl rfl HT_.out ?_
            refine pus_ 1 (some 22) #[true, true, false, false, false, false, false, false, false, false, false] rfl rfl HT_.out ?_
            refine pus_ 2 (some 23) #[true, true, true, false, false, false, false, false, false, false, false] rfl rfl HT_.out ?_
            refine tas_ 3 (some 24) #[true, true, true, true, false, false, false, false, false, false, false] rfl rfl HT_.out HW_.out hHeld ?_
            refine pus_ 4 (some 25) #[true, true, true, true, true, false, false, false, false, false, false] rfl rfl HT_.out ?_
            refine pus_ 5 (some 26) #[true, true, true, true, true, true, false, false, false, false, false] rfl rfl HT_.out ?_
            refine pus_ 6 (some 27) #[true, true, true, true, true, true, true, false, false, false, false] rfl rfl HT_.out ?_
            refine tas_ 7 (some 28) #[true, true, true, true, true, true, true, true, false, false, false] rfl rfl HT_.out HW_.out hHeld ?_
            refine pus_ 8 (some 29) #[true, true, true, true, true, true, true, true, true, false, false] rfl rfl HT_.out ?_
            refine one_ (i := 9) (N := (some 30)) #[true, true, true, true, true, true, true, true, true, true, false] rfl rfl (one_of HT_.out (by kernel_rfl)) (by decide) (fun K hK => ?_)
            refine goes_ Try.func14 (by kernel_rfl) rfl #[.string (s.extract i s.size)] (by rfl) rfl rfl goa_ ?_
            refine (number_Scan.calls _ n _ A1.out).mono ?_
            rintro e w6 ⟨rfl, hb⟩
            refine ⟨_, rfl, ?_⟩
            have HX := Aside0.mk (HX5.out.below hb)
            have HK := Aside0.mk (HK5.out.call hb)
            have K2 := Aside0.mk (K25.out.call hb)
            have K3 := Aside0.mk (K35.out.call hb)
            clear hb HX5 HK5 K25 K35
            refine hK.out _ _ ⟨HX.out.s, HX.out.i⟩ (fun hHeld => ?_)
            clear hK K
            refine norm_ (a' := ?_) ?_ ?_
            rotate_left
            ·show Act.put _ (some 30) _ = _
             simp only [Act.put, List.setIfInBounds_toArray, List.set_cons_zero, List.set_cons_succ, i64_w, i32_w]
             rfl
            refine pus_ 10 (some 6) #[true, true, true, true, true, true, true, true, true, true, true] rfl rfl HT_.out ?_
            refine done_ (done_of HT_.out (by kernel_rfl)) ?_
            clear hHeld HT_ HW_
            have hc0 := HX.out.s
            have hc1 := HX.out.i
            have hz1 := HX.out.fz
            have ht0 := K3.out.c0
            have ht1 := K3.out.c1
            have ht2 := K3.out.c2
            have ht3 := K3.out.c3
            have hf0 := K3.out.fz 0
            have hf1 := K3.out.fz 1
            have hf2 := K3.out.fz 2
            have hf3 := K3.out.fz 3
            have hne := N2.out
            have hne2 := N2.out.symm
            have hne3 := N1.out
            have hne4 := N1.out.symm
            have hne5 := N3.out
            have hne6 := N3.out.symm
            go_wp2_with (first | (go_at_call 17; with_reducible refine (begins_calls k s g i HS.out HII.out _ _ ?lx A2.out).mono ?_; (case lx => exact (by repeat (first | (with_reducible first | exact HX.out | apply Lx.drewN | apply Lx.drew | apply Lx.set | apply lx_far N2.out)))); rintro e wb ⟨rfl, hb⟩; have HXn := Aside0.mk (Lx.below (by repeat (first | (with_reducible first | exact HX.out | apply Lx.drewN | apply Lx.drew | apply Lx.set | apply lx_far N2.out))) hb); have HKn := Aside0.mk (Lk.call (by repeat (first | (with_reducible first | exact HK.out | apply Lk.drewN | apply Lk.drew | apply Lk.set | apply lk_setN HB3.out))) hb); have K2n := Aside0.mk (Tk.call (by repeat (first | (with_reducible first | exact K2.out | apply Tk.drewN | apply Tk.drew | apply tk_far N1.out.symm | apply tk_far N3.out))) hb); have K3n := Aside0.mk (Tk.call (by repeat (first | (with_reducible first | exact K3.out | apply Tk.drewN | apply Tk.drew | apply tk_far N2.out.symm))) hb); clear hb; clear HX HK K2 K3; have HX := HXn; have HK := HKn; have K2 := K2n; have K3 := K3n; clear HXn HKn K2n K3n; have hc0 := HX.out.s; have hc1 := HX.out.i; have hz1 := HX.out.fz; have ht0 := K3.out.c0; have ht1 := K3.out.c1; have ht2 := K3.out.c2; have ht3 := K3.out.c3; have hf0 := K3.out.fz 0; have hf1 := K3.out.fz 1; have hf2 := K3.out.fz 2; have hf3 := K3.out.fz 3; have hr0 := K2.out.c0; have hr1 := K2.out.c1; have hr2 := K2.out.c2; have hr3 := K2.out.c3; have hs0 := K2.out.fz 0; have hs1 := K2.out.fz 1; have hs2 := K2.out.fz 2; have hs3 := K2.out.fz 3) | (go_at_call 18; with_reducible refine (ident_calls k s g i _ _ HS.out HII.out _ ?lx A4.out).mono ?_; (case lx => exact (by repeat (first | (with_reducible first | exact HX.out | apply Lx.drewN | apply Lx.drew | apply Lx.set | apply lx_far N2.out)))); rintro e wd ⟨rfl, hx, hk⟩; rw [HTX.out]; have HXn := Aside0.mk hx; have HKn := Aside0.mk (Lk.trans (by repeat (first | (with_reducible first | exact HK.out | apply Lk.drewN | apply Lk.drew | apply Lk.set | apply lk_setN HB3.out))) hk); have K2n := Aside0.mk (Tk.lk (by repeat (first | (with_reducible first | exact K2.out | apply Tk.drewN | apply Tk.drew | apply tk_far N1.out.symm | apply tk_far N3.out))) hk N1.out.symm); have K3n := Aside0.mk (Tk.lk (by repeat (first | (with_reducible first | exact K3.out | apply Tk.drewN | apply Tk.drew | apply tk_far N2.out.symm))) hk N2.out.symm); clear hx hk; clear HX HK K2 K3; have HX := HXn; have HK := HKn; have K2 := K2n; have K3 := K3n; clear HXn HKn K2n K3n; have hc0 := HX.out.s; have hc1 := HX.out.i; have hz1 := HX.out.fz; have ht0 := K3.out.c0; have ht1 := K3.out.c1; have ht2 := K3.out.c2; have ht3 := K3.out.c3; have hf0 := K3.out.fz 0; have hf1 := K3.out.fz 1; have hf2 := K3.out.fz 2; have hf3 := K3.out.fz 3; have hr0 := K2.out.c0; have hr1 := K2.out.c1; have hr2 := K2.out.c2; have hr3 := K2.out.c3; have hs0 := K2.out.fz 0; have hs1 := K2.out.fz 1; have hs2 := K2.out.fz 2; have hs3 := K2.out.fz 3) | (go_at_call 15; with_reducible refine (is_paren0 s g e e HS.out HWE.out _ _ ?lx A5.out).mono ?_; (case lx => exact (by repeat (first | (with_reducible first | exact HX.out | apply Lx.drewN | apply Lx.drew | apply Lx.set | apply lx_far N2.out)))); rintro e wi ⟨rfl, ⟨ni, rfl⟩⟩))
            refine bodyPost_ret (results_cell_row rfl _ _ b2 29 #[.int .i64 2, .int .i64 (i : Int), .string x, .string (⟨#[]⟩ : ByteArray)] (0, 0) _ rfl (show _ from Tk.set3 (Tk.set2 (Tk.set1 (Tk.set0 (by repeat (first | (with_reducible first | exact K2.out | apply Tk.drewN | apply Tk.drew | apply tk_far N1.out.symm | apply tk_far N3.out))) _) _) _) _) huT rfl (by kernel_rfl)) rfl ?_
            exact ⟨rfl, Lx.far (Lx.far (Lx.far (Lx.far (Lx.setv (by repeat (first | (with_reducible first | exact HX.out | apply Lx.drewN | apply Lx.drew | apply Lx.set | apply lx_far N2.out))) (by omega)) N1.out _ _) N1.out _ _) N1.out _ _) N1.out _ _, Lk.setN (Lk.setN (Lk.setN (Lk.setN (by repeat (first | (with_reducible first | exact HK.out | apply Lk.drewN | apply Lk.drew | apply Lk.set | apply lk_setN HB3.out))) HS2.out _ _) HS2.out _ _) HS2.out _ _) HS2.out _ _⟩
        · rw [if_neg h3] at hf
          cases hf
  · rw [if_neg hlt] at hf
    cases hf
end Go.Proofs.Ytholgbdfflabhaa.Giv
end
