/-
  No cell of these rows narrows 'for every input' (looked for: loops, veiled, ifaces, maps, wideKeys, modest, calm, conditions, laid).
  DERIVED. THE GIVEN ROWS OF THIS SEAT. 13 by the template 'for every input the law returns true; each argument reads behind the call as it read before'; 0 by the template 'total and deterministic' (their statements: YtdjfdhnmbimkoaaTotals.lean).
  GIVEN WITH THE SEED: the statements are not yours to turn. If you find one false, say at which input.
  Laid BY PROGRAM, IN A SANDBOX (cutbox-rows.mjs): the forced cells as the released guide's own fill.sh prints them over the translation ddc17340d23b03a1… (all of the seat's roots in one cut). By AI agents, Wed Nov 11 2026. No macro, syntax, notation, axiom, sorry.
-/
import Derived.Test.YtdjfdhnmbimkoaaChecked
import GoSem.Claim
import GoSem.ClaimJoined
import GoSem.ClaimMapViews
import Derived.JoinedTies
import Derived.KernelRfl
namespace Go.Proofs.Ytdjfdhnmbimkoaa
/- THE CELL 'sum', in the pinned program and in every row, IS THE sha256 OF THE DUMP (.gsa) THAT YtdjfdhnmbimkoaaProg.lean LOADS. Nothing in Lean hashes anything: it is a label: what it is worth is what the hold of that sum in a sandbox is worth. -/
noncomputable def Try.pinned : Pinned := { name := "ytdjfdhnmbimkoaa", sum := "ddc17340d23b03a15eaea219186728527b583b5bd280979258e9b73c7b0b401f", checked := Try.checked }
namespace Rows
def none {H : Type} : Left H := { results := [], args := [] }

/-- 'parterrelaw16.NamesAlong': WHATEVER THE INPUT: true; the input reads as it did. -/
def namesAlongSpec : ChangeSpec := { name := "namesAlong", fn := fun _ => fun
  | [d1, d2, d3, d4] => { results := [.lit (.bool true)], args := [d1, d2, d3, d4] }
  | _ => none }
def namesAlongRow : OpenClaim := { program := "ytdjfdhnmbimkoaa", sum := "ddc17340d23b03a15eaea219186728527b583b5bd280979258e9b73c7b0b401f", func := "parterre/parterrelaw16.NamesAlong", spec := "namesAlong", apart := false }
def NamesAlongSaid : Prop := namesAlongRow.holds Try.pinned (OpenSpec.ofChange namesAlongSpec)

/-- ITS FALSE NEIGHBOUR: 'it returns false'. Refute it at one input. -/
def namesAlongWrong : ChangeSpec := { name := "namesAlong", fn := fun _ => fun
  | [d1, d2, d3, d4] => { results := [.lit (.bool false)], args := [d1, d2, d3, d4] }
  | _ => none }
def NamesAlongWrongFalsely : Prop := namesAlongRow.holds Try.pinned (OpenSpec.ofChange namesAlongWrong)

/-- 'parterrelaw16.NamesRising': WHATEVER THE INPUT: true; the input reads as it did. -/
def namesRisingSpec : ChangeSpec := { name := "namesRising", fn := fun _ => fun
  | [d1, d2, d3, d4] => { results := [.lit (.bool true)], args := [d1, d2, d3, d4] }
  | _ => none }
def namesRisingRow : OpenClaim := { program := "ytdjfdhnmbimkoaa", sum := "ddc17340d23b03a15eaea219186728527b583b5bd280979258e9b73c7b0b401f", func := "parterre/parterrelaw16.NamesRising", spec := "namesRising", apart := false }
def NamesRisingSaid : Prop := namesRisingRow.holds Try.pinned (OpenSpec.ofChange namesRisingSpec)

/-- ITS FALSE NEIGHBOUR: 'it returns false'. Refute it at one input. -/
def namesRisingWrong : ChangeSpec := { name := "namesRising", fn := fun _ => fun
  | [d1, d2, d3, d4] => { results := [.lit (.bool false)], args := [d1, d2, d3, d4] }
  | _ => none }
def NamesRisingWrongFalsely : Prop := namesRisingRow.holds Try.pinned (OpenSpec.ofChange namesRisingWrong)

/-- 'parterrelaw16.NamesFinds': WHATEVER THE INPUT: true; the input reads as it did. -/
def namesFindsSpec : ChangeSpec := { name := "namesFinds", fn := fun _ => fun
  | [d1, d2, d3, d4] => { results := [.lit (.bool true)], args := [d1, d2, d3, d4] }
  | _ => none }
def namesFindsRow : OpenClaim := { program := "ytdjfdhnmbimkoaa", sum := "ddc17340d23b03a15eaea219186728527b583b5bd280979258e9b73c7b0b401f", func := "parterre/parterrelaw16.NamesFinds", spec := "namesFinds", apart := false }
def NamesFindsSaid : Prop := namesFindsRow.holds Try.pinned (OpenSpec.ofChange namesFindsSpec)

/-- ITS FALSE NEIGHBOUR: 'it returns false'. Refute it at one input. -/
def namesFindsWrong : ChangeSpec := { name := "namesFinds", fn := fun _ => fun
  | [d1, d2, d3, d4] => { results := [.lit (.bool false)], args := [d1, d2, d3, d4] }
  | _ => none }
def NamesFindsWrongFalsely : Prop := namesFindsRow.holds Try.pinned (OpenSpec.ofChange namesFindsWrong)

/-- 'parterrelaw04.IdentWrites': WHATEVER THE INPUT: true; the input reads as it did. -/
def identWritesSpec : ChangeSpec := { name := "identWrites", fn := fun _ => fun
  | [d] => { results := [.lit (.bool true)], args := [d] }
  | _ => none }
def identWritesRow : OpenClaim := { program := "ytdjfdhnmbimkoaa", sum := "ddc17340d23b03a15eaea219186728527b583b5bd280979258e9b73c7b0b401f", func := "parterre/parterrelaw04.IdentWrites", spec := "identWrites", inPlace := ["internal/bytealg.IndexByteString", "internal/abi.NoEscape"], unfollowed := true, recurses := true, apart := false }
def IdentWritesSaid : Prop := identWritesRow.holds Try.pinned (OpenSpec.ofChange identWritesSpec)

/-- ITS FALSE NEIGHBOUR: 'it returns false'. Refute it at one input. -/
def identWritesWrong : ChangeSpec := { name := "identWrites", fn := fun _ => fun
  | [d] => { results := [.lit (.bool false)], args := [d] }
  | _ => none }
def IdentWritesWrongFalsely : Prop := identWritesRow.holds Try.pinned (OpenSpec.ofChange identWritesWrong)

/-- 'parterrelaw14.LeafTells': WHATEVER THE INPUT: true; the input reads as it did. -/
def leafTellsSpec : ChangeSpec := { name := "leafTells", fn := fun _ => fun
  | [d1, d2] => { results := [.lit (.bool true)], args := [d1, d2] }
  | _ => none }
def leafTellsRow : OpenClaim := { program := "ytdjfdhnmbimkoaa", sum := "ddc17340d23b03a15eaea219186728527b583b5bd280979258e9b73c7b0b401f", func := "parterre/parterrelaw14.LeafTells", spec := "leafTells", unfollowed := true, recurses := true, apart := false }
def LeafTellsSaid : Prop := leafTellsRow.holds Try.pinned (OpenSpec.ofChange leafTellsSpec)

/-- ITS FALSE NEIGHBOUR: 'it returns false'. Refute it at one input. -/
def leafTellsWrong : ChangeSpec := { name := "leafTells", fn := fun _ => fun
  | [d1, d2] => { results := [.lit (.bool false)], args := [d1, d2] }
  | _ => none }
def LeafTellsWrongFalsely : Prop := leafTellsRow.holds Try.pinned (OpenSpec.ofChange leafTellsWrong)

/-- 'parterrelaw14.LeafLines': WHATEVER THE INPUT: true; the input reads as it did. -/
def leafLinesSpec : ChangeSpec := { name := "leafLines", fn := fun _ => fun
  | [d1, d2] => { results := [.lit (.bool true)], args := [d1, d2] }
  | _ => none }
def leafLinesRow : OpenClaim := { program := "ytdjfdhnmbimkoaa", sum := "ddc17340d23b03a15eaea219186728527b583b5bd280979258e9b73c7b0b401f", func := "parterre/parterrelaw14.LeafLines", spec := "leafLines", unfollowed := true, recurses := true, apart := false }
def LeafLinesSaid : Prop := leafLinesRow.holds Try.pinned (OpenSpec.ofChange leafLinesSpec)

/-- ITS FALSE NEIGHBOUR: 'it returns false'. Refute it at one input. -/
def leafLinesWrong : ChangeSpec := { name := "leafLines", fn := fun _ => fun
  | [d1, d2] => { results := [.lit (.bool false)], args := [d1, d2] }
  | _ => none }
def LeafLinesWrongFalsely : Prop := leafLinesRow.holds Try.pinned (OpenSpec.ofChange leafLinesWrong)

/-- 'parterrelaw14.LeafMore': WHATEVER THE INPUT: true; the input reads as it did. -/
def leafMoreSpec : ChangeSpec := { name := "leafMore", fn := fun _ => fun
  | [d1, d2, d3] => { results := [.lit (.bool true)], args := [d1, d2, d3] }
  | _ => none }
def leafMoreRow : OpenClaim := { program := "ytdjfdhnmbimkoaa", sum := "ddc17340d23b03a15eaea219186728527b583b5bd280979258e9b73c7b0b401f", func := "parterre/parterrelaw14.LeafMore", spec := "leafMore", unfollowed := true, recurses := true, apart := false }
def LeafMoreSaid : Prop := leafMoreRow.holds Try.pinned (OpenSpec.ofChange leafMoreSpec)

/-- ITS FALSE NEIGHBOUR: 'it returns false'. Refute it at one input. -/
def leafMoreWrong : ChangeSpec := { name := "leafMore", fn := fun _ => fun
  | [d1, d2, d3] => { results := [.lit (.bool false)], args := [d1, d2, d3] }
  | _ => none }
def LeafMoreWrongFalsely : Prop := leafMoreRow.holds Try.pinned (OpenSpec.ofChange leafMoreWrong)

/-- 'parterrelaw16.NamesTables': WHATEVER THE INPUT: true; the input reads as it did. -/
def namesTablesSpec : ChangeSpec := { name := "namesTables", fn := fun _ => fun
  | [d1, d2, d3, d4] => { results := [.lit (.bool true)], args := [d1, d2, d3, d4] }
  | _ => none }
def namesTablesRow : OpenClaim := { program := "ytdjfdhnmbimkoaa", sum := "ddc17340d23b03a15eaea219186728527b583b5bd280979258e9b73c7b0b401f", func := "parterre/parterrelaw16.NamesTables", spec := "namesTables", apart := false }
def NamesTablesSaid : Prop := namesTablesRow.holds Try.pinned (OpenSpec.ofChange namesTablesSpec)

/-- ITS FALSE NEIGHBOUR: 'it returns false'. Refute it at one input. -/
def namesTablesWrong : ChangeSpec := { name := "namesTables", fn := fun _ => fun
  | [d1, d2, d3, d4] => { results := [.lit (.bool false)], args := [d1, d2, d3, d4] }
  | _ => none }
def NamesTablesWrongFalsely : Prop := namesTablesRow.holds Try.pinned (OpenSpec.ofChange namesTablesWrong)

/-- 'parterrelaw04.IdentTells': WHATEVER THE INPUT: true; the input reads as it did. -/
def identTellsSpec : ChangeSpec := { name := "identTells", fn := fun _ => fun
  | [d1, d2] => { results := [.lit (.bool true)], args := [d1, d2] }
  | _ => none }
def identTellsRow : OpenClaim := { program := "ytdjfdhnmbimkoaa", sum := "ddc17340d23b03a15eaea219186728527b583b5bd280979258e9b73c7b0b401f", func := "parterre/parterrelaw04.IdentTells", spec := "identTells", inPlace := ["internal/bytealg.IndexByteString", "internal/abi.NoEscape"], unfollowed := true, recurses := true, apart := false }
def IdentTellsSaid : Prop := identTellsRow.holds Try.pinned (OpenSpec.ofChange identTellsSpec)

/-- ITS FALSE NEIGHBOUR: 'it returns false'. Refute it at one input. -/
def identTellsWrong : ChangeSpec := { name := "identTells", fn := fun _ => fun
  | [d1, d2] => { results := [.lit (.bool false)], args := [d1, d2] }
  | _ => none }
def IdentTellsWrongFalsely : Prop := identTellsRow.holds Try.pinned (OpenSpec.ofChange identTellsWrong)

/-- 'parterrelaw18.ResolveTurned': WHATEVER THE INPUT: true; the input reads as it did. -/
def resolveTurnedSpec : ChangeSpec := { name := "resolveTurned", fn := fun _ => fun
  | [d1, d2, d3] => { results := [.lit (.bool true)], args := [d1, d2, d3] }
  | _ => none }
def resolveTurnedRow : OpenClaim := { program := "ytdjfdhnmbimkoaa", sum := "ddc17340d23b03a15eaea219186728527b583b5bd280979258e9b73c7b0b401f", func := "parterre/parterrelaw18.ResolveTurned", spec := "resolveTurned", inPlace := ["internal/bytealg.IndexByteString"], apart := false }
def ResolveTurnedSaid : Prop := resolveTurnedRow.holds Try.pinned (OpenSpec.ofChange resolveTurnedSpec)

/-- ITS FALSE NEIGHBOUR: 'it returns false'. Refute it at one input. -/
def resolveTurnedWrong : ChangeSpec := { name := "resolveTurned", fn := fun _ => fun
  | [d1, d2, d3] => { results := [.lit (.bool false)], args := [d1, d2, d3] }
  | _ => none }
def ResolveTurnedWrongFalsely : Prop := resolveTurnedRow.holds Try.pinned (OpenSpec.ofChange resolveTurnedWrong)

/-- 'parterrelaw18.ResolveSpans': WHATEVER THE INPUT: true; the input reads as it did. -/
def resolveSpansSpec : ChangeSpec := { name := "resolveSpans", fn := fun _ => fun
  | [d1, d2, d3] => { results := [.lit (.bool true)], args := [d1, d2, d3] }
  | _ => none }
def resolveSpansRow : OpenClaim := { program := "ytdjfdhnmbimkoaa", sum := "ddc17340d23b03a15eaea219186728527b583b5bd280979258e9b73c7b0b401f", func := "parterre/parterrelaw18.ResolveSpans", spec := "resolveSpans", inPlace := ["internal/bytealg.IndexByteString"], apart := false }
def ResolveSpansSaid : Prop := resolveSpansRow.holds Try.pinned (OpenSpec.ofChange resolveSpansSpec)

/-- ITS FALSE NEIGHBOUR: 'it returns false'. Refute it at one input. -/
def resolveSpansWrong : ChangeSpec := { name := "resolveSpans", fn := fun _ => fun
  | [d1, d2, d3] => { results := [.lit (.bool false)], args := [d1, d2, d3] }
  | _ => none }
def ResolveSpansWrongFalsely : Prop := resolveSpansRow.holds Try.pinned (OpenSpec.ofChange resolveSpansWrong)

/-- 'parterrelaw18.ResolveTells': WHATEVER THE INPUT: true; the input reads as it did. -/
def resolveTellsSpec : ChangeSpec := { name := "resolveTells", fn := fun _ => fun
  | [d1, d2, d3] => { results := [.lit (.bool true)], args := [d1, d2, d3] }
  | _ => none }
def resolveTellsRow : OpenClaim := { program := "ytdjfdhnmbimkoaa", sum := "ddc17340d23b03a15eaea219186728527b583b5bd280979258e9b73c7b0b401f", func := "parterre/parterrelaw18.ResolveTells", spec := "resolveTells", inPlace := ["internal/bytealg.IndexByteString"], apart := false }
def ResolveTellsSaid : Prop := resolveTellsRow.holds Try.pinned (OpenSpec.ofChange resolveTellsSpec)

/-- ITS FALSE NEIGHBOUR: 'it returns false'. Refute it at one input. -/
def resolveTellsWrong : ChangeSpec := { name := "resolveTells", fn := fun _ => fun
  | [d1, d2, d3] => { results := [.lit (.bool false)], args := [d1, d2, d3] }
  | _ => none }
def ResolveTellsWrongFalsely : Prop := resolveTellsRow.holds Try.pinned (OpenSpec.ofChange resolveTellsWrong)

/-- 'parterrelaw18.ResolveAreas': WHATEVER THE INPUT: true; the input reads as it did. -/
def resolveAreasSpec : ChangeSpec := { name := "resolveAreas", fn := fun _ => fun
  | [d] => { results := [.lit (.bool true)], args := [d] }
  | _ => none }
def resolveAreasRow : OpenClaim := { program := "ytdjfdhnmbimkoaa", sum := "ddc17340d23b03a15eaea219186728527b583b5bd280979258e9b73c7b0b401f", func := "parterre/parterrelaw18.ResolveAreas", spec := "resolveAreas", inPlace := ["internal/bytealg.IndexByteString"], unfollowed := true, recurses := true, apart := false }
def ResolveAreasSaid : Prop := resolveAreasRow.holds Try.pinned (OpenSpec.ofChange resolveAreasSpec)

/-- ITS FALSE NEIGHBOUR: 'it returns false'. Refute it at one input. -/
def resolveAreasWrong : ChangeSpec := { name := "resolveAreas", fn := fun _ => fun
  | [d] => { results := [.lit (.bool false)], args := [d] }
  | _ => none }
def ResolveAreasWrongFalsely : Prop := resolveAreasRow.holds Try.pinned (OpenSpec.ofChange resolveAreasWrong)

/- THE SECOND FORM. 'bulk': how many values and letters a reading holds, each counted each time it is reached (what is shared counts as often as it is met; a slice's spare places count too). A statement '..UptoSaid' is the law's where the arguments, and the package variables that the reading takes, are together of bulk at most 1048576: NARROWER than '..Said'. Prove '..Said' where nothing that the law and all that it calls make is longer than what came in: it says more and counts as full. Else prove '..UptoSaid'. A law counts once. -/
mutual
def uptoBulk {H : Type} : DataW H → Nat
  | .lit (.string bytes) => bytes.length + 1
  | .lit _ => 1
  | .nil => 1
  | .ptr d => uptoBulk d + 1
  | .slice elems spare => uptoBulkAll elems + uptoBulkAll spare + 1
  | .agg parts => uptoBulkAll parts + 1
  | .iface _ d => uptoBulk d + 1
  | .map entries => uptoBulkEntries entries + 1
  | .held _ => 1
def uptoBulkAll {H : Type} : List (DataW H) → Nat
  | [] => 0
  | d :: r => uptoBulk d + uptoBulkAll r
def uptoBulkEntries {H : Type} : List (Lit × DataW H) → Nat
  | [] => 0
  | x :: r => uptoBulkEntry x + uptoBulkEntries r
def uptoBulkEntry {H : Type} : Lit × DataW H → Nat
  | (.string bytes, d) => bytes.length + uptoBulk d + 1
  | (_, d) => uptoBulk d + 1
 end
def uptoSmall : (H : Type) → List (DataW H) → Bool := fun _ ds => decide (uptoBulkAll ds ≤ 1048576)
def OpenSpec.upto (s : _root_.Go.ChangeSpec) : _root_.Go.OpenSpec := { _root_.Go.OpenSpec.ofChange s with cond := some uptoSmall }

/-- 'parterrelaw16.NamesAlong', WHERE WHAT IT READS IS OF BULK AT MOST 1048576: true; the input reads as it did. -/
def namesAlongUptoRow : OpenClaim := { program := "ytdjfdhnmbimkoaa", sum := "ddc17340d23b03a15eaea219186728527b583b5bd280979258e9b73c7b0b401f", func := "parterre/parterrelaw16.NamesAlong", spec := "namesAlong", apart := false, narrowed := true }
def NamesAlongUptoSaid : Prop := namesAlongUptoRow.holds Try.pinned (OpenSpec.upto namesAlongSpec)

/-- 'parterrelaw16.NamesRising', WHERE WHAT IT READS IS OF BULK AT MOST 1048576: true; the input reads as it did. -/
def namesRisingUptoRow : OpenClaim := { program := "ytdjfdhnmbimkoaa", sum := "ddc17340d23b03a15eaea219186728527b583b5bd280979258e9b73c7b0b401f", func := "parterre/parterrelaw16.NamesRising", spec := "namesRising", apart := false, narrowed := true }
def NamesRisingUptoSaid : Prop := namesRisingUptoRow.holds Try.pinned (OpenSpec.upto namesRisingSpec)

/-- 'parterrelaw16.NamesFinds', WHERE WHAT IT READS IS OF BULK AT MOST 1048576: true; the input reads as it did. -/
def namesFindsUptoRow : OpenClaim := { program := "ytdjfdhnmbimkoaa", sum := "ddc17340d23b03a15eaea219186728527b583b5bd280979258e9b73c7b0b401f", func := "parterre/parterrelaw16.NamesFinds", spec := "namesFinds", apart := false, narrowed := true }
def NamesFindsUptoSaid : Prop := namesFindsUptoRow.holds Try.pinned (OpenSpec.upto namesFindsSpec)

/-- 'parterrelaw04.IdentWrites', WHERE WHAT IT READS IS OF BULK AT MOST 1048576: true; the input reads as it did. -/
def identWritesUptoRow : OpenClaim := { program := "ytdjfdhnmbimkoaa", sum := "ddc17340d23b03a15eaea219186728527b583b5bd280979258e9b73c7b0b401f", func := "parterre/parterrelaw04.IdentWrites", spec := "identWrites", inPlace := ["internal/bytealg.IndexByteString", "internal/abi.NoEscape"], unfollowed := true, recurses := true, apart := false, narrowed := true }
def IdentWritesUptoSaid : Prop := identWritesUptoRow.holds Try.pinned (OpenSpec.upto identWritesSpec)

/-- 'parterrelaw14.LeafTells', WHERE WHAT IT READS IS OF BULK AT MOST 1048576: true; the input reads as it did. -/
def leafTellsUptoRow : OpenClaim := { program := "ytdjfdhnmbimkoaa", sum := "ddc17340d23b03a15eaea219186728527b583b5bd280979258e9b73c7b0b401f", func := "parterre/parterrelaw14.LeafTells", spec := "leafTells", unfollowed := true, recurses := true, apart := false, narrowed := true }
def LeafTellsUptoSaid : Prop := leafTellsUptoRow.holds Try.pinned (OpenSpec.upto leafTellsSpec)

/-- 'parterrelaw14.LeafLines', WHERE WHAT IT READS IS OF BULK AT MOST 1048576: true; the input reads as it did. -/
def leafLinesUptoRow : OpenClaim := { program := "ytdjfdhnmbimkoaa", sum := "ddc17340d23b03a15eaea219186728527b583b5bd280979258e9b73c7b0b401f", func := "parterre/parterrelaw14.LeafLines", spec := "leafLines", unfollowed := true, recurses := true, apart := false, narrowed := true }
def LeafLinesUptoSaid : Prop := leafLinesUptoRow.holds Try.pinned (OpenSpec.upto leafLinesSpec)

/-- 'parterrelaw14.LeafMore', WHERE WHAT IT READS IS OF BULK AT MOST 1048576: true; the input reads as it did. -/
def leafMoreUptoRow : OpenClaim := { program := "ytdjfdhnmbimkoaa", sum := "ddc17340d23b03a15eaea219186728527b583b5bd280979258e9b73c7b0b401f", func := "parterre/parterrelaw14.LeafMore", spec := "leafMore", unfollowed := true, recurses := true, apart := false, narrowed := true }
def LeafMoreUptoSaid : Prop := leafMoreUptoRow.holds Try.pinned (OpenSpec.upto leafMoreSpec)

/-- 'parterrelaw16.NamesTables', WHERE WHAT IT READS IS OF BULK AT MOST 1048576: true; the input reads as it did. -/
def namesTablesUptoRow : OpenClaim := { program := "ytdjfdhnmbimkoaa", sum := "ddc17340d23b03a15eaea219186728527b583b5bd280979258e9b73c7b0b401f", func := "parterre/parterrelaw16.NamesTables", spec := "namesTables", apart := false, narrowed := true }
def NamesTablesUptoSaid : Prop := namesTablesUptoRow.holds Try.pinned (OpenSpec.upto namesTablesSpec)

/-- 'parterrelaw04.IdentTells', WHERE WHAT IT READS IS OF BULK AT MOST 1048576: true; the input reads as it did. -/
def identTellsUptoRow : OpenClaim := { program := "ytdjfdhnmbimkoaa", sum := "ddc17340d23b03a15eaea219186728527b583b5bd280979258e9b73c7b0b401f", func := "parterre/parterrelaw04.IdentTells", spec := "identTells", inPlace := ["internal/bytealg.IndexByteString", "internal/abi.NoEscape"], unfollowed := true, recurses := true, apart := false, narrowed := true }
def IdentTellsUptoSaid : Prop := identTellsUptoRow.holds Try.pinned (OpenSpec.upto identTellsSpec)

/-- 'parterrelaw18.ResolveTurned', WHERE WHAT IT READS IS OF BULK AT MOST 1048576: true; the input reads as it did. -/
def resolveTurnedUptoRow : OpenClaim := { program := "ytdjfdhnmbimkoaa", sum := "ddc17340d23b03a15eaea219186728527b583b5bd280979258e9b73c7b0b401f", func := "parterre/parterrelaw18.ResolveTurned", spec := "resolveTurned", inPlace := ["internal/bytealg.IndexByteString"], apart := false, narrowed := true }
def ResolveTurnedUptoSaid : Prop := resolveTurnedUptoRow.holds Try.pinned (OpenSpec.upto resolveTurnedSpec)

/-- 'parterrelaw18.ResolveSpans', WHERE WHAT IT READS IS OF BULK AT MOST 1048576: true; the input reads as it did. -/
def resolveSpansUptoRow : OpenClaim := { program := "ytdjfdhnmbimkoaa", sum := "ddc17340d23b03a15eaea219186728527b583b5bd280979258e9b73c7b0b401f", func := "parterre/parterrelaw18.ResolveSpans", spec := "resolveSpans", inPlace := ["internal/bytealg.IndexByteString"], apart := false, narrowed := true }
def ResolveSpansUptoSaid : Prop := resolveSpansUptoRow.holds Try.pinned (OpenSpec.upto resolveSpansSpec)

/-- 'parterrelaw18.ResolveTells', WHERE WHAT IT READS IS OF BULK AT MOST 1048576: true; the input reads as it did. -/
def resolveTellsUptoRow : OpenClaim := { program := "ytdjfdhnmbimkoaa", sum := "ddc17340d23b03a15eaea219186728527b583b5bd280979258e9b73c7b0b401f", func := "parterre/parterrelaw18.ResolveTells", spec := "resolveTells", inPlace := ["internal/bytealg.IndexByteString"], apart := false, narrowed := true }
def ResolveTellsUptoSaid : Prop := resolveTellsUptoRow.holds Try.pinned (OpenSpec.upto resolveTellsSpec)

/-- 'parterrelaw18.ResolveAreas', WHERE WHAT IT READS IS OF BULK AT MOST 1048576: true; the input reads as it did. -/
def resolveAreasUptoRow : OpenClaim := { program := "ytdjfdhnmbimkoaa", sum := "ddc17340d23b03a15eaea219186728527b583b5bd280979258e9b73c7b0b401f", func := "parterre/parterrelaw18.ResolveAreas", spec := "resolveAreas", inPlace := ["internal/bytealg.IndexByteString"], unfollowed := true, recurses := true, apart := false, narrowed := true }
def ResolveAreasUptoSaid : Prop := resolveAreasUptoRow.holds Try.pinned (OpenSpec.upto resolveAreasSpec)

end Rows
end Go.Proofs.Ytdjfdhnmbimkoaa
