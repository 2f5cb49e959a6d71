import Derived.Test.YtfccpnpocfjbcaaPTkx2
import Derived.Test.YtfccpnpocfjbcaaPTkx5
import Derived.Test.YtfccpnpocfjbcaaPTkx6
import Derived.Test.YtfccpnpocfjbcaaPTkx8
import Derived.Test.YtfccpnpocfjbcaaSq
import Derived.BigRegion
import Derived.BigQuiet
import Derived.Deep.QuietTactic

namespace Go.Proofs.Ytfccpnpocfjbcaa.Giv
open Go.RowKit Go.Proofs.YtfccpnpocfjbcaaW.PrintWords Go.Proofs.YtfccpnpocfjbcaaW.PrintLast Go.Proofs.YtfccpnpocfjbcaaW.PrintMore Go.Proofs.Ytfccpnpocfjbcaa.PTk
open Go.Proofs.Ytfccpnpocfjbcaa.Opn Go.BigFrame
set_option linter.unusedVariables false
set_option linter.unusedSimpArgs false
section
variable {P : Program} {ops : Array Oper} {C : World → Prop} {Q : Act → Prop}
/-- A call of a function that is held in a variable, in a quiet walk. -/
theorem qcall_fn {o : Oper} {rest : List Oper} {a : Act} {f : FuncId} {fn : Func} {t : Tmp} {xs : Array Operand} {ts : Array TypeId} (N : Option Tmp) (hd : o.dst = N) (hf : P.funcs[f]? = some fn) (hname : (fn.name == "runtime.NumGoroutine") = false) (hb : fn.body.isSome = true)
    (args : Array Value) (v : Value) (hw : Region.wanted o (yielded ops a.tmps) = true) (hop : o.op = .call { callee := .value (.tmp t), args := xs, argTypes := ts }) (ht : a.tmps[t]? = some (.func (.func f) #[] #[])) (hargs : xs.map a.eval = args)
    (hc : ∀ w, C w → Calls P f args w fun e w' => e = .returned v ∧ C w') (h : wpQuiet P ops C Q rest (a.put N v)) : wpQuiet P ops C Q (o :: rest) a := by
  subst hd
  refine wpQuiet_step fun K hK => ?_
  rw [if_pos hw]
  refine ⟨v, fun w hC => ?_, hK _ h⟩
  have he := enters_ hf hname hb args w
  have hrun : (execOp a.eval o).run P w = .ok (.enter f args) w := by
    unfold execOp
    simp [hop, resolve, Deferred.ofValue, invoke, Act.eval, hargs, ht, he]
  unfold Oper.quietAt
  rw [hrun]
  exact ⟨rfl, hc w hC⟩
/-- A call of a function, in a quiet walk. -/
theorem qcall {o : Oper} {rest : List Oper} {a : Act} {f : FuncId} {fn : Func} {xs : Array Operand} {ts : Array TypeId} (N : Option Tmp) (hd : o.dst = N) (hf : P.funcs[f]? = some fn) (hname : (fn.name == "runtime.NumGoroutine") = false) (hb : fn.body.isSome = true)
    (args : Array Value) (v : Value) (hw : Region.wanted o (yielded ops a.tmps) = true) (hop : o.op = .call { callee := .value (.func f), args := xs, argTypes := ts }) (hargs : xs.map a.eval = args)
    (hc : ∀ w, C w → Calls P f args w fun e w' => e = .returned v ∧ C w') (h : wpQuiet P ops C Q rest (a.put N v)) : wpQuiet P ops C Q (o :: rest) a := by
  subst hd
  refine wpQuiet_step fun K hK => ?_
  rw [if_pos hw]
  refine ⟨v, fun w hC => ?_, hK _ h⟩
  have he := enters_ hf hname hb args w
  have hrun : (execOp a.eval o).run P w = .ok (.enter f args) w := by
    unfold execOp
    simp [hop, resolve, Deferred.ofValue, invoke, Act.eval, hargs, he]
  unfold Oper.quietAt
  rw [hrun]
  exact ⟨rfl, hc w hC⟩
end
/-- The lexer's block: its bytes, and its place. -/
def Lx (W : World) (g : Nat) (s : ByteArray) (i : Nat) : Prop := W.heap[g]? = some (.cells #[.string s, .int .i64 (i : Int)] 47 (0, 0))
theorem Lx.s {W : World} {g : Nat} {s : ByteArray} {i : Nat} (h : Lx W g s i) : W.cell? ⟨g, 0, none⟩ = some (.string s) := (blk_cell h 0).trans rfl
theorem Lx.i {W : World} {g : Nat} {s : ByteArray} {i : Nat} (h : Lx W g s i) : W.cell? ⟨g, 1, none⟩ = some (.int .i64 (i : Int)) := (blk_cell h 1).trans rfl
theorem Lx.below {W W' : World} {g : Nat} {s : ByteArray} {i : Nat} (h : Lx W g s i) (hb : Below W.heap.size W W') : Lx W' g s i := blk_below h hb
theorem Lx.set {W : World} {g : Nat} {s : ByteArray} {i : Nat} (h : Lx W g s i) (j : Nat) : Lx (W.setCell ⟨g, 1, none⟩ (.int .i64 (j : Int))) g s j := blk_put h 1 _ rfl
theorem Lx.drewN {W : World} {g : Nat} {s : ByteArray} {i : Nat} (h : Lx W g s i) (n : Nat) : Lx (W.drewN n) g s i := h
theorem Lx.drew {W : World} {g : Nat} {s : ByteArray} {i : Nat} (h : Lx W g s i) : Lx W.drew g s i := h
def isF (p : Int → Option Bool) (s : ByteArray) (i : Nat) : Option Bool := if i < s.size then p (bt s (i : Nat)) else some false
theorem wrapE (i k : Nat) (h : i + k ≤ 9223372036854775807) : IntKind.i64.wrap ((i : Int) + (k : Int)) = ((i + k : Nat) : Int) := by
  rw [i64_w]
  unfold wrap64
  omega
set_option maxHeartbeats 8000000 in
set_option maxRecDepth 100000 in
theorem is_minus0 (s : ByteArray) (g i j : Nat) (hs : s.size ≤ 140737488351232) (hw : IntKind.i64.wrap ((i : Int)) = (j : Int)) (r : Bool) (w : World) (h : Lx w g s i) (hf : isF token_lexer_begins_1.f s j = some r) :
    Calls Try.prog 43 #[.pointer (some ⟨g, 0, none⟩), .int .i64 0, .func (.func 56) #[] #[]] w fun e w' => e = .returned (.bool r) ∧ Drawn0 w w' := by
  have hu := Try.underlying47
  have hc0 := h.s
  have hc1 := h.i
  unfold isF at hf
  by_cases hlt : j < s.size
  · rw [if_pos hlt] at hf
    have A1 := Aside0.mk hf
    have q0 : (0 ≤ (j : Int)) = True := eq_true (by omega)
    have q1 : ((j : Int) < (s.size : Int)) = True := eq_true (by omega)
    have q2 : decide ((j : Int) < (s.size : Int)) = true := decide_eq_true (by omega)
    have q3 : decide (j < s.size) = true := decide_eq_true hlt
    have q4 : (j < s.size) = True := eq_true hlt
    have hx : ∀ h : j < s.size, ((s[j].toNat : Nat) : Int) = bt s (j : Nat) := fun h => bt_at s (j : Int) (by simpa using h)
    clear hf hlt hs h
    go_enter Try.func43, Try.ntmps43
    go_wp2
    refine wp_region_quiet_lit (by kernel_rfl) (by kernel_rfl) ?_
    repeat (go_big_quiet_step (fail))
    refine qcall_fn (some 32) rfl Try.func56 (by kernel_rfl) rfl #[.int .u8 (bt s (j : Nat))] (.bool r) (by rfl) rfl (by rfl) goa_ (fun w1 hw1 => ?_) ?_
    · obtain ⟨n1, rfl⟩ := hw1
      refine (token_lexer_begins_1.calls _ _ _ A1.out).mono ?_
      rintro e w2 ⟨rfl, ⟨m1, rfl⟩⟩
      exact ⟨rfl, ⟨n1 + m1, by simp [World.drewN, Nat.add_assoc]⟩⟩
    simp only [Act.put, List.setIfInBounds_toArray, List.set_cons_zero, List.set_cons_succ]
    repeat (go_big_quiet_step (fail))
    refine wpQuiet_nil ?_
    intro _ hw'
    obtain ⟨nq, hw''⟩ := hw'
    subst hw''
    go_wp2
    go_ret
    exact ⟨rfl, by repeat (first | exact Drawn0.refl _ | apply Drawn0.step)⟩
  · rw [if_neg hlt] at hf
    obtain rfl := Option.some.inj hf
    have q1 : ((j : Int) < (s.size : Int)) = False := eq_false (by omega)
    have q2 : decide ((j : Int) < (s.size : Int)) = false := decide_eq_false (by omega)
    have q3 : decide (j < s.size) = false := decide_eq_false hlt
    have q4 : (j < s.size) = False := eq_false hlt
    clear hf hlt hs h
    go_enter Try.func43, Try.ntmps43
    go_wp2
    refine wp_region_quiet_lit (by kernel_rfl) (by kernel_rfl) ?_
    repeat (go_big_quiet_step (fail))
    refine wpQuiet_nil ?_
    intro _ hw'
    obtain ⟨nq, hw''⟩ := hw'
    subst hw''
    go_wp2
    go_ret
    exact ⟨rfl, by repeat (first | exact Drawn0.refl _ | apply Drawn0.step)⟩
set_option maxHeartbeats 8000000 in
set_option maxRecDepth 100000 in
theorem is_minus1 (s : ByteArray) (g i j : Nat) (hs : s.size ≤ 140737488351232) (hw : IntKind.i64.wrap ((i : Int) + 1) = (j : Int)) (r : Bool) (w : World) (h : Lx w g s i) (hf : isF token_lexer_begins_1.f s j = some r) :
    Calls Try.prog 43 #[.pointer (some ⟨g, 0, none⟩), .int .i64 1, .func (.func 56) #[] #[]] w fun e w' => e = .returned (.bool r) ∧ Drawn0 w w' := by
  have hu := Try.underlying47
  have hc0 := h.s
  have hc1 := h.i
  unfold isF at hf
  by_cases hlt : j < s.size
  · rw [if_pos hlt] at hf
    have A1 := Aside0.mk hf
    have q0 : (0 ≤ (j : Int)) = True := eq_true (by omega)
    have q1 : ((j : Int) < (s.size : Int)) = True := eq_true (by omega)
    have q2 : decide ((j : Int) < (s.size : Int)) = true := decide_eq_true (by omega)
    have q3 : decide (j < s.size) = true := decide_eq_true hlt
    have q4 : (j < s.size) = True := eq_true hlt
    have hx : ∀ h : j < s.size, ((s[j].toNat : Nat) : Int) = bt s (j : Nat) := fun h => bt_at s (j : Int) (by simpa using h)
    clear hf hlt hs h
    go_enter Try.func43, Try.ntmps43
    go_wp2
    refine wp_region_quiet_lit (by kernel_rfl) (by kernel_rfl) ?_
    repeat (go_big_quiet_step (fail))
    refine qcall_fn (some 32) rfl Try.func56 (by kernel_rfl) rfl #[.int .u8 (bt s (j : Nat))] (.bool r) (by rfl) rfl (by rfl) goa_ (fun w1 hw1 => ?_) ?_
    · obtain ⟨n1, rfl⟩ := hw1
      refine (token_lexer_begins_1.calls _ _ _ A1.out).mono ?_
      rintro e w2 ⟨rfl, ⟨m1, rfl⟩⟩
      exact ⟨rfl, ⟨n1 + m1, by simp [World.drewN, Nat.add_assoc]⟩⟩
    simp only [Act.put, List.setIfInBounds_toArray, List.set_cons_zero, List.set_cons_succ]
    repeat (go_big_quiet_step (fail))
    refine wpQuiet_nil ?_
    intro _ hw'
    obtain ⟨nq, hw''⟩ := hw'
    subst hw''
    go_wp2
    go_ret
    exact ⟨rfl, by repeat (first | exact Drawn0.refl _ | apply Drawn0.step)⟩
  · rw [if_neg hlt] at hf
    obtain rfl := Option.some.inj hf
    have q1 : ((j : Int) < (s.size : Int)) = False := eq_false (by omega)
    have q2 : decide ((j : Int) < (s.size : Int)) = false := decide_eq_false (by omega)
    have q3 : decide (j < s.size) = false := decide_eq_false hlt
    have q4 : (j < s.size) = False := eq_false hlt
    clear hf hlt hs h
    go_enter Try.func43, Try.ntmps43
    go_wp2
    refine wp_region_quiet_lit (by kernel_rfl) (by kernel_rfl) ?_
    repeat (go_big_quiet_step (fail))
    refine wpQuiet_nil ?_
    intro _ hw'
    obtain ⟨nq, hw''⟩ := hw'
    subst hw''
    go_wp2
    go_ret
    exact ⟨rfl, by repeat (first | exact Drawn0.refl _ | apply Drawn0.step)⟩
set_option maxHeartbeats 8000000 in
set_option maxRecDepth 100000 in
theorem is_letter0 (s : ByteArray) (g i j : Nat) (hs : s.size ≤ 140737488351232) (hw : IntKind.i64.wrap ((i : Int)) = (j : Int)) (r : Bool) (w : World) (h : Lx w g s i) (hf : isF token_Letter.f s j = some r) :
    Calls Try.prog 43 #[.pointer (some ⟨g, 0, none⟩), .int .i64 0, .func (.func 11) #[] #[]] w fun e w' => e = .returned (.bool r) ∧ Drawn0 w w' := by
  have hu := Try.underlying47
  have hc0 := h.s
  have hc1 := h.i
  unfold isF at hf
  by_cases hlt : j < s.size
  · rw [if_pos hlt] at hf
    have A1 := Aside0.mk hf
    have q0 : (0 ≤ (j : Int)) = True := eq_true (by omega)
    have q1 : ((j : Int) < (s.size : Int)) = True := eq_true (by omega)
    have q2 : decide ((j : Int) < (s.size : Int)) = true := decide_eq_true (by omega)
    have q3 : decide (j < s.size) = true := decide_eq_true hlt
    have q4 : (j < s.size) = True := eq_true hlt
    have hx : ∀ h : j < s.size, ((s[j].toNat : Nat) : Int) = bt s (j : Nat) := fun h => bt_at s (j : Int) (by simpa using h)
    clear hf hlt hs h
    go_enter Try.func43, Try.ntmps43
    go_wp2
    refine wp_region_quiet_lit (by kernel_rfl) (by kernel_rfl) ?_
    repeat (go_big_quiet_step (fail))
    refine qcall_fn (some 32) rfl Try.func11 (by kernel_rfl) rfl #[.int .u8 (bt s (j : Nat))] (.bool r) (by rfl) rfl (by rfl) goa_ (fun w1 hw1 => ?_) ?_
    · obtain ⟨n1, rfl⟩ := hw1
      refine (token_Letter.calls _ _ _ A1.out).mono ?_
      rintro e w2 ⟨rfl, ⟨m1, rfl⟩⟩
      exact ⟨rfl, ⟨n1 + m1, by simp [World.drewN, Nat.add_assoc]⟩⟩
    simp only [Act.put, List.setIfInBounds_toArray, List.set_cons_zero, List.set_cons_succ]
    repeat (go_big_quiet_step (fail))
    refine wpQuiet_nil ?_
    intro _ hw'
    obtain ⟨nq, hw''⟩ := hw'
    subst hw''
    go_wp2
    go_ret
    exact ⟨rfl, by repeat (first | exact Drawn0.refl _ | apply Drawn0.step)⟩
  · rw [if_neg hlt] at hf
    obtain rfl := Option.some.inj hf
    have q1 : ((j : Int) < (s.size : Int)) = False := eq_false (by omega)
    have q2 : decide ((j : Int) < (s.size : Int)) = false := decide_eq_false (by omega)
    have q3 : decide (j < s.size) = false := decide_eq_false hlt
    have q4 : (j < s.size) = False := eq_false hlt
    clear hf hlt hs h
    go_enter Try.func43, Try.ntmps43
    go_wp2
    refine wp_region_quiet_lit (by kernel_rfl) (by kernel_rfl) ?_
    repeat (go_big_quiet_step (fail))
    refine wpQuiet_nil ?_
    intro _ hw'
    obtain ⟨nq, hw''⟩ := hw'
    subst hw''
    go_wp2
    go_ret
    exact ⟨rfl, by repeat (first | exact Drawn0.refl _ | apply Drawn0.step)⟩
set_option maxHeartbeats 8000000 in
set_option maxRecDepth 100000 in
theorem is_letter1 (s : ByteArray) (g i j : Nat) (hs : s.size ≤ 140737488351232) (hw : IntKind.i64.wrap ((i : Int) + 1) = (j : Int)) (r : Bool) (w : World) (h : Lx w g s i) (hf : isF token_Letter.f s j = some r) :
    Calls Try.prog 43 #[.pointer (some ⟨g, 0, none⟩), .int .i64 1, .func (.func 11) #[] #[]] w fun e w' => e = .returned (.bool r) ∧ Drawn0 w w' := by
  have hu := Try.underlying47
  have hc0 := h.s
  have hc1 := h.i
  unfold isF at hf
  by_cases hlt : j < s.size
  · rw [if_pos hlt] at hf
    have A1 := Aside0.mk hf
    have q0 : (0 ≤ (j : Int)) = True := eq_true (by omega)
    have q1 : ((j : Int) < (s.size : Int)) = True := eq_true (by omega)
    have q2 : decide ((j : Int) < (s.size : Int)) = true := decide_eq_true (by omega)
    have q3 : decide (j < s.size) = true := decide_eq_true hlt
    have q4 : (j < s.size) = True := eq_true hlt
    have hx : ∀ h : j < s.size, ((s[j].toNat : Nat) : Int) = bt s (j : Nat) := fun h => bt_at s (j : Int) (by simpa using h)
    clear hf hlt hs h
    go_enter Try.func43, Try.ntmps43
    go_wp2
    refine wp_region_quiet_lit (by kernel_rfl) (by kernel_rfl) ?_
    repeat (go_big_quiet_step (fail))
    refine qcall_fn (some 32) rfl Try.func11 (by kernel_rfl) rfl #[.int .u8 (bt s (j : Nat))] (.bool r) (by rfl) rfl (by rfl) goa_ (fun w1 hw1 => ?_) ?_
    · obtain ⟨n1, rfl⟩ := hw1
      refine (token_Letter.calls _ _ _ A1.out).mono ?_
      rintro e w2 ⟨rfl, ⟨m1, rfl⟩⟩
      exact ⟨rfl, ⟨n1 + m1, by simp [World.drewN, Nat.add_assoc]⟩⟩
    simp only [Act.put, List.setIfInBounds_toArray, List.set_cons_zero, List.set_cons_succ]
    repeat (go_big_quiet_step (fail))
    refine wpQuiet_nil ?_
    intro _ hw'
    obtain ⟨nq, hw''⟩ := hw'
    subst hw''
    go_wp2
    go_ret
    exact ⟨rfl, by repeat (first | exact Drawn0.refl _ | apply Drawn0.step)⟩
  · rw [if_neg hlt] at hf
    obtain rfl := Option.some.inj hf
    have q1 : ((j : Int) < (s.size : Int)) = False := eq_false (by omega)
    have q2 : decide ((j : Int) < (s.size : Int)) = false := decide_eq_false (by omega)
    have q3 : decide (j < s.size) = false := decide_eq_false hlt
    have q4 : (j < s.size) = False := eq_false hlt
    clear hf hlt hs h
    go_enter Try.func43, Try.ntmps43
    go_wp2
    refine wp_region_quiet_lit (by kernel_rfl) (by kernel_rfl) ?_
    repeat (go_big_quiet_step (fail))
    refine wpQuiet_nil ?_
    intro _ hw'
    obtain ⟨nq, hw''⟩ := hw'
    subst hw''
    go_wp2
    go_ret
    exact ⟨rfl, by repeat (first | exact Drawn0.refl _ | apply Drawn0.step)⟩
set_option maxHeartbeats 8000000 in
set_option maxRecDepth 100000 in
theorem is_inner0 (s : ByteArray) (g i j : Nat) (hs : s.size ≤ 140737488351232) (hw : IntKind.i64.wrap ((i : Int)) = (j : Int)) (r : Bool) (w : World) (h : Lx w g s i) (hf : isF token_lexer_ident_1.f s j = some r) :
    Calls Try.prog 43 #[.pointer (some ⟨g, 0, none⟩), .int .i64 0, .func (.func 58) #[] #[]] w fun e w' => e = .returned (.bool r) ∧ Drawn0 w w' := by
  have hu := Try.underlying47
  have hc0 := h.s
  have hc1 := h.i
  unfold isF at hf
  by_cases hlt : j < s.size
  · rw [if_pos hlt] at hf
    have A1 := Aside0.mk hf
    have q0 : (0 ≤ (j : Int)) = True := eq_true (by omega)
    have q1 : ((j : Int) < (s.size : Int)) = True := eq_true (by omega)
    have q2 : decide ((j : Int) < (s.size : Int)) = true := decide_eq_true (by omega)
    have q3 : decide (j < s.size) = true := decide_eq_true hlt
    have q4 : (j < s.size) = True := eq_true hlt
    have hx : ∀ h : j < s.size, ((s[j].toNat : Nat) : Int) = bt s (j : Nat) := fun h => bt_at s (j : Int) (by simpa using h)
    clear hf hlt hs h
    go_enter Try.func43, Try.ntmps43
    go_wp2
    refine wp_region_quiet_lit (by kernel_rfl) (by kernel_rfl) ?_
    repeat (go_big_quiet_step (fail))
    refine qcall_fn (some 32) rfl Try.func58 (by kernel_rfl) rfl #[.int .u8 (bt s (j : Nat))] (.bool r) (by rfl) rfl (by rfl) goa_ (fun w1 hw1 => ?_) ?_
    · obtain ⟨n1, rfl⟩ := hw1
      refine (token_lexer_ident_1.calls _ _ _ A1.out).mono ?_
      rintro e w2 ⟨rfl, ⟨m1, rfl⟩⟩
      exact ⟨rfl, ⟨n1 + m1, by simp [World.drewN, Nat.add_assoc]⟩⟩
    simp only [Act.put, List.setIfInBounds_toArray, List.set_cons_zero, List.set_cons_succ]
    repeat (go_big_quiet_step (fail))
    refine wpQuiet_nil ?_
    intro _ hw'
    obtain ⟨nq, hw''⟩ := hw'
    subst hw''
    go_wp2
    go_ret
    exact ⟨rfl, by repeat (first | exact Drawn0.refl _ | apply Drawn0.step)⟩
  · rw [if_neg hlt] at hf
    obtain rfl := Option.some.inj hf
    have q1 : ((j : Int) < (s.size : Int)) = False := eq_false (by omega)
    have q2 : decide ((j : Int) < (s.size : Int)) = false := decide_eq_false (by omega)
    have q3 : decide (j < s.size) = false := decide_eq_false hlt
    have q4 : (j < s.size) = False := eq_false hlt
    clear hf hlt hs h
    go_enter Try.func43, Try.ntmps43
    go_wp2
    refine wp_region_quiet_lit (by kernel_rfl) (by kernel_rfl) ?_
    repeat (go_big_quiet_step (fail))
    refine wpQuiet_nil ?_
    intro _ hw'
    obtain ⟨nq, hw''⟩ := hw'
    subst hw''
    go_wp2
    go_ret
    exact ⟨rfl, by repeat (first | exact Drawn0.refl _ | apply Drawn0.step)⟩
set_option maxHeartbeats 8000000 in
set_option maxRecDepth 100000 in
theorem is_pct0 (s : ByteArray) (g i j : Nat) (hs : s.size ≤ 140737488351232) (hw : IntKind.i64.wrap ((i : Int)) = (j : Int)) (r : Bool) (w : World) (h : Lx w g s i) (hf : isF token_lexer_word_1.f s j = some r) :
    Calls Try.prog 43 #[.pointer (some ⟨g, 0, none⟩), .int .i64 0, .func (.func 44) #[] #[]] w fun e w' => e = .returned (.bool r) ∧ Drawn0 w w' := by
  have hu := Try.underlying47
  have hc0 := h.s
  have hc1 := h.i
  unfold isF at hf
  by_cases hlt : j < s.size
  · rw [if_pos hlt] at hf
    have A1 := Aside0.mk hf
    have q0 : (0 ≤ (j : Int)) = True := eq_true (by omega)
    have q1 : ((j : Int) < (s.size : Int)) = True := eq_true (by omega)
    have q2 : decide ((j : Int) < (s.size : Int)) = true := decide_eq_true (by omega)
    have q3 : decide (j < s.size) = true := decide_eq_true hlt
    have q4 : (j < s.size) = True := eq_true hlt
    have hx : ∀ h : j < s.size, ((s[j].toNat : Nat) : Int) = bt s (j : Nat) := fun h => bt_at s (j : Int) (by simpa using h)
    clear hf hlt hs h
    go_enter Try.func43, Try.ntmps43
    go_wp2
    refine wp_region_quiet_lit (by kernel_rfl) (by kernel_rfl) ?_
    repeat (go_big_quiet_step (fail))
    refine qcall_fn (some 32) rfl Try.func44 (by kernel_rfl) rfl #[.int .u8 (bt s (j : Nat))] (.bool r) (by rfl) rfl (by rfl) goa_ (fun w1 hw1 => ?_) ?_
    · obtain ⟨n1, rfl⟩ := hw1
      refine (token_lexer_word_1.calls _ _ _ A1.out).mono ?_
      rintro e w2 ⟨rfl, ⟨m1, rfl⟩⟩
      exact ⟨rfl, ⟨n1 + m1, by simp [World.drewN, Nat.add_assoc]⟩⟩
    simp only [Act.put, List.setIfInBounds_toArray, List.set_cons_zero, List.set_cons_succ]
    repeat (go_big_quiet_step (fail))
    refine wpQuiet_nil ?_
    intro _ hw'
    obtain ⟨nq, hw''⟩ := hw'
    subst hw''
    go_wp2
    go_ret
    exact ⟨rfl, by repeat (first | exact Drawn0.refl _ | apply Drawn0.step)⟩
  · rw [if_neg hlt] at hf
    obtain rfl := Option.some.inj hf
    have q1 : ((j : Int) < (s.size : Int)) = False := eq_false (by omega)
    have q2 : decide ((j : Int) < (s.size : Int)) = false := decide_eq_false (by omega)
    have q3 : decide (j < s.size) = false := decide_eq_false hlt
    have q4 : (j < s.size) = False := eq_false hlt
    clear hf hlt hs h
    go_enter Try.func43, Try.ntmps43
    go_wp2
    refine wp_region_quiet_lit (by kernel_rfl) (by kernel_rfl) ?_
    repeat (go_big_quiet_step (fail))
    refine wpQuiet_nil ?_
    intro _ hw'
    obtain ⟨nq, hw''⟩ := hw'
    subst hw''
    go_wp2
    go_ret
    exact ⟨rfl, by repeat (first | exact Drawn0.refl _ | apply Drawn0.step)⟩
set_option maxHeartbeats 8000000 in
set_option maxRecDepth 100000 in
theorem is_paren0 (s : ByteArray) (g i j : Nat) (hs : s.size ≤ 140737488351232) (hw : IntKind.i64.wrap ((i : Int)) = (j : Int)) (r : Bool) (w : World) (h : Lx w g s i) (hf : isF token_lexer_word_2.f s j = some r) :
    Calls Try.prog 43 #[.pointer (some ⟨g, 0, none⟩), .int .i64 0, .func (.func 47) #[] #[]] w fun e w' => e = .returned (.bool r) ∧ Drawn0 w w' := by
  have hu := Try.underlying47
  have hc0 := h.s
  have hc1 := h.i
  unfold isF at hf
  by_cases hlt : j < s.size
  · rw [if_pos hlt] at hf
    have A1 := Aside0.mk hf
    have q0 : (0 ≤ (j : Int)) = True := eq_true (by omega)
    have q1 : ((j : Int) < (s.size : Int)) = True := eq_true (by omega)
    have q2 : decide ((j : Int) < (s.size : Int)) = true := decide_eq_true (by omega)
    have q3 : decide (j < s.size) = true := decide_eq_true hlt
    have q4 : (j < s.size) = True := eq_true hlt
    have hx : ∀ h : j < s.size, ((s[j].toNat : Nat) : Int) = bt s (j : Nat) := fun h => bt_at s (j : Int) (by simpa using h)
    clear hf hlt hs h
    go_enter Try.func43, Try.ntmps43
    go_wp2
    refine wp_region_quiet_lit (by kernel_rfl) (by kernel_rfl) ?_
    repeat (go_big_quiet_step (fail))
    refine qcall_fn (some 32) rfl Try.func47 (by kernel_rfl) rfl #[.int .u8 (bt s (j : Nat))] (.bool r) (by rfl) rfl (by rfl) goa_ (fun w1 hw1 => ?_) ?_
    · obtain ⟨n1, rfl⟩ := hw1
      refine (token_lexer_word_2.calls _ _ _ A1.out).mono ?_
      rintro e w2 ⟨rfl, ⟨m1, rfl⟩⟩
      exact ⟨rfl, ⟨n1 + m1, by simp [World.drewN, Nat.add_assoc]⟩⟩
    simp only [Act.put, List.setIfInBounds_toArray, List.set_cons_zero, List.set_cons_succ]
    repeat (go_big_quiet_step (fail))
    refine wpQuiet_nil ?_
    intro _ hw'
    obtain ⟨nq, hw''⟩ := hw'
    subst hw''
    go_wp2
    go_ret
    exact ⟨rfl, by repeat (first | exact Drawn0.refl _ | apply Drawn0.step)⟩
  · rw [if_neg hlt] at hf
    obtain rfl := Option.some.inj hf
    have q1 : ((j : Int) < (s.size : Int)) = False := eq_false (by omega)
    have q2 : decide ((j : Int) < (s.size : Int)) = false := decide_eq_false (by omega)
    have q3 : decide (j < s.size) = false := decide_eq_false hlt
    have q4 : (j < s.size) = False := eq_false hlt
    clear hf hlt hs h
    go_enter Try.func43, Try.ntmps43
    go_wp2
    refine wp_region_quiet_lit (by kernel_rfl) (by kernel_rfl) ?_
    repeat (go_big_quiet_step (fail))
    refine wpQuiet_nil ?_
    intro _ hw'
    obtain ⟨nq, hw''⟩ := hw'
    subst hw''
    go_wp2
    go_ret
    exact ⟨rfl, by repeat (first | exact Drawn0.refl _ | apply Drawn0.step)⟩
set_option maxHeartbeats 8000000 in
set_option maxRecDepth 100000 in
theorem is_nl0 (s : ByteArray) (g i j : Nat) (hs : s.size ≤ 140737488351232) (hw : IntKind.i64.wrap ((i : Int)) = (j : Int)) (r : Bool) (w : World) (h : Lx w g s i) (hf : isF token_lexer_quoted_1.f s j = some r) :
    Calls Try.prog 43 #[.pointer (some ⟨g, 0, none⟩), .int .i64 0, .func (.func 60) #[] #[]] w fun e w' => e = .returned (.bool r) ∧ Drawn0 w w' := by
  have hu := Try.underlying47
  have hc0 := h.s
  have hc1 := h.i
  unfold isF at hf
  by_cases hlt : j < s.size
  · rw [if_pos hlt] at hf
    have A1 := Aside0.mk hf
    have q0 : (0 ≤ (j : Int)) = True := eq_true (by omega)
    have q1 : ((j : Int) < (s.size : Int)) = True := eq_true (by omega)
    have q2 : decide ((j : Int) < (s.size : Int)) = true := decide_eq_true (by omega)
    have q3 : decide (j < s.size) = true := decide_eq_true hlt
    have q4 : (j < s.size) = True := eq_true hlt
    have hx : ∀ h : j < s.size, ((s[j].toNat : Nat) : Int) = bt s (j : Nat) := fun h => bt_at s (j : Int) (by simpa using h)
    clear hf hlt hs h
    go_enter Try.func43, Try.ntmps43
    go_wp2
    refine wp_region_quiet_lit (by kernel_rfl) (by kernel_rfl) ?_
    repeat (go_big_quiet_step (fail))
    refine qcall_fn (some 32) rfl Try.func60 (by kernel_rfl) rfl #[.int .u8 (bt s (j : Nat))] (.bool r) (by rfl) rfl (by rfl) goa_ (fun w1 hw1 => ?_) ?_
    · obtain ⟨n1, rfl⟩ := hw1
      refine (token_lexer_quoted_1.calls _ _ _ A1.out).mono ?_
      rintro e w2 ⟨rfl, ⟨m1, rfl⟩⟩
      exact ⟨rfl, ⟨n1 + m1, by simp [World.drewN, Nat.add_assoc]⟩⟩
    simp only [Act.put, List.setIfInBounds_toArray, List.set_cons_zero, List.set_cons_succ]
    repeat (go_big_quiet_step (fail))
    refine wpQuiet_nil ?_
    intro _ hw'
    obtain ⟨nq, hw''⟩ := hw'
    subst hw''
    go_wp2
    go_ret
    exact ⟨rfl, by repeat (first | exact Drawn0.refl _ | apply Drawn0.step)⟩
  · rw [if_neg hlt] at hf
    obtain rfl := Option.some.inj hf
    have q1 : ((j : Int) < (s.size : Int)) = False := eq_false (by omega)
    have q2 : decide ((j : Int) < (s.size : Int)) = false := decide_eq_false (by omega)
    have q3 : decide (j < s.size) = false := decide_eq_false hlt
    have q4 : (j < s.size) = False := eq_false hlt
    clear hf hlt hs h
    go_enter Try.func43, Try.ntmps43
    go_wp2
    refine wp_region_quiet_lit (by kernel_rfl) (by kernel_rfl) ?_
    repeat (go_big_quiet_step (fail))
    refine wpQuiet_nil ?_
    intro _ hw'
    obtain ⟨nq, hw''⟩ := hw'
    subst hw''
    go_wp2
    go_ret
    exact ⟨rfl, by repeat (first | exact Drawn0.refl _ | apply Drawn0.step)⟩
set_option maxHeartbeats 8000000 in
set_option maxRecDepth 100000 in
theorem is_feed1 (s : ByteArray) (g i j : Nat) (hs : s.size ≤ 140737488351232) (hw : IntKind.i64.wrap ((i : Int) + 1) = (j : Int)) (r : Bool) (w : World) (h : Lx w g s i) (hf : isF token_feed.f s j = some r) :
    Calls Try.prog 43 #[.pointer (some ⟨g, 0, none⟩), .int .i64 1, .func (.func 18) #[] #[]] w fun e w' => e = .returned (.bool r) ∧ Drawn0 w w' := by
  have hu := Try.underlying47
  have hc0 := h.s
  have hc1 := h.i
  unfold isF at hf
  by_cases hlt : j < s.size
  · rw [if_pos hlt] at hf
    have A1 := Aside0.mk hf
    have q0 : (0 ≤ (j : Int)) = True := eq_true (by omega)
    have q1 : ((j : Int) < (s.size : Int)) = True := eq_true (by omega)
    have q2 : decide ((j : Int) < (s.size : Int)) = true := decide_eq_true (by omega)
    have q3 : decide (j < s.size) = true := decide_eq_true hlt
    have q4 : (j < s.size) = True := eq_true hlt
    have hx : ∀ h : j < s.size, ((s[j].toNat : Nat) : Int) = bt s (j : Nat) := fun h => bt_at s (j : Int) (by simpa using h)
    clear hf hlt hs h
    go_enter Try.func43, Try.ntmps43
    go_wp2
    refine wp_region_quiet_lit (by kernel_rfl) (by kernel_rfl) ?_
    repeat (go_big_quiet_step (fail))
    refine qcall_fn (some 32) rfl Try.func18 (by kernel_rfl) rfl #[.int .u8 (bt s (j : Nat))] (.bool r) (by rfl) rfl (by rfl) goa_ (fun w1 hw1 => ?_) ?_
    · obtain ⟨n1, rfl⟩ := hw1
      refine (token_feed.calls _ _ _ A1.out).mono ?_
      rintro e w2 ⟨rfl, ⟨m1, rfl⟩⟩
      exact ⟨rfl, ⟨n1 + m1, by simp [World.drewN, Nat.add_assoc]⟩⟩
    simp only [Act.put, List.setIfInBounds_toArray, List.set_cons_zero, List.set_cons_succ]
    repeat (go_big_quiet_step (fail))
    refine wpQuiet_nil ?_
    intro _ hw'
    obtain ⟨nq, hw''⟩ := hw'
    subst hw''
    go_wp2
    go_ret
    exact ⟨rfl, by repeat (first | exact Drawn0.refl _ | apply Drawn0.step)⟩
  · rw [if_neg hlt] at hf
    obtain rfl := Option.some.inj hf
    have q1 : ((j : Int) < (s.size : Int)) = False := eq_false (by omega)
    have q2 : decide ((j : Int) < (s.size : Int)) = false := decide_eq_false (by omega)
    have q3 : decide (j < s.size) = false := decide_eq_false hlt
    have q4 : (j < s.size) = False := eq_false hlt
    clear hf hlt hs h
    go_enter Try.func43, Try.ntmps43
    go_wp2
    refine wp_region_quiet_lit (by kernel_rfl) (by kernel_rfl) ?_
    repeat (go_big_quiet_step (fail))
    refine wpQuiet_nil ?_
    intro _ hw'
    obtain ⟨nq, hw''⟩ := hw'
    subst hw''
    go_wp2
    go_ret
    exact ⟨rfl, by repeat (first | exact Drawn0.refl _ | apply Drawn0.step)⟩
end Go.Proofs.Ytfccpnpocfjbcaa.Giv
