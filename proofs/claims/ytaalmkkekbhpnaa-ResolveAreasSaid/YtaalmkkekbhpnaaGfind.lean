/- The contract of names.Find, by hand, out of that of names.where: the lines of a name, in order. Condition: tables of at most a million lines, each of at most a million names, none of them longer than can be read. -/
import Derived.Test.YtaalmkkekbhpnaaGwhere
set_option linter.unusedVariables false
set_option linter.unusedSimpArgs false
namespace Go.Proofs.Ytaalmkkekbhpnaa.Giv
open Go.RowKit Go.Proofs.YtaalmkkekbhpnaaW.PrintWords Go.Proofs.YtaalmkkekbhpnaaW.PrintLast Go.Proofs.YtaalmkkekbhpnaaW.PrintMore
open Go.ChangeShapes (lits)
open Go.Maps

instance (l0 : List (List ByteArray)) : Decidable (Small l0) := by unfold Small; infer_instance
def names_Find.f (l0 : List (List ByteArray)) (a1 : ByteArray) : Option (List Int) := if Small l0 ∧ a1.size ≤ 9223372036854775807 then some (hitsK l0 a1 l0.length) else none

theorem Holds.at_end {t : List (List ByteArray)} {D : DataW Unit} (h : Holds t t.length 0 D) (s : ByteArray) : D.atKey (keyL s) .nil = rowD (hitsK t s t.length) := by
  rw [h.2 s, namedIn_zero]
  simp

set_option maxHeartbeats 2000000 in
set_option maxRecDepth 100000 in
theorem names_Find.calls (A0 : Option Addr) (c0 : Nat) (l0 : List (List ByteArray)) (a1 : ByteArray) (r : List Int) (w : World) (hr0 : Kd.C (Kd.slice 9 Kd.string) w A0 l0.length l0) (hc0 : l0.length ≤ c0) (h : names_Find.f l0 a1 = some r) :
    Calls Try.prog 26 #[.slice A0 l0.length c0, .string a1] w fun e w' => ∃ v0_ : Value, e = .returned (v0_) ∧ Kd.R (Kd.int .i64) 3 w' w.heap.size (fun _ => True) v0_ r ∧ Below w.heap.size w w' := by
  have HR0 := Aside0.mk hr0
  have HC0 := Aside0.mk hc0
  clear hr0 hc0
  unfold names_Find.f at h
  split at h
  · rename_i hg
    obtain ⟨hg1, hg2⟩ := hg
    have HG := Aside0.mk hg1
    have HR := Aside0.mk (Option.some.inj h)
    have hsz : a1.size ≤ maxLen := by unfold maxLen; omega
    clear hg1 h
    have law := string_keyed Try.underlying9
    have hkey : keyOf Try.prog 9 (.string a1) = some (keyL a1) := WideMaps.keyOf_string_mk Try.underlying9 hsz
    go_enter Try.func26, Try.ntmps26
    go_wp2_with (first
      | (go_at_call 32; refine (where_calls _ _ l0 _ HR0.out HC0.out HG.out).mono ?_; rintro e w' ⟨D, n, rfl, hown, hn, hD, hb⟩)
      | (at_lookup; refine wpList_lookup_groups _ rfl _ _ 66 rfl 9 57 3 .i64 law Try.underlying66 (where_zeroI _) (w.heap.size + 1) w.heap.size n D rfl hown hn _ _ rfl hkey ?_; intro v zs hat hoi hzl hback))
    go_ret
    have hz : r = zs := by
      rw [← HR.out]
      exact rowD_of hoi ((hD.at_end a1).symm.trans hat)
    refine ⟨v, rfl, ?_, hb⟩
    rw [hz]
    refine Kd.R_of_own (own_less hoi.1 (Nat.le_succ _)) (fun _ _ => trivial)
  · cases h
end Go.Proofs.Ytaalmkkekbhpnaa.Giv
