/-
  NARROWER THAN 'FOR EVERY INPUT', by the rows' own cells (each row's printed sentence says how): CoverFree: loops.
  DERIVED. THE GIVEN ROWS OF THIS SEAT. 3 by the template 'for every input the law returns true; each argument reads behind the call as it read before'; 0 by the template 'total and deterministic' (their statements: YtejpbijeifjdeaaGreatTotals.lean).
  GIVEN WITH THE SEED: the statements are not yours to turn. If you find one false, say at which input.
  Laid BY PROGRAM, IN A SANDBOX (cutbox-rows.mjs): the forced cells as the released guide's own fill.sh prints them over the translation 88e14a4196c47ffc… (all of the seat's roots in one cut). By AI agents, Wed Nov 11 2026. No macro, syntax, notation, axiom, sorry.
-/
import Derived.Test.YtejpbijeifjdeaaGreatChecked
import GoSem.Claim
import GoSem.ClaimJoined
import GoSem.ClaimMapViews
import Derived.JoinedTies
import Derived.KernelRfl
namespace Go.Proofs.YtejpbijeifjdeaaGreat
/- THE CELL 'sum', in the pinned program and in every row, IS THE sha256 OF THE DUMP (.gsa) THAT YtejpbijeifjdeaaGreatProg.lean LOADS. Nothing in Lean hashes anything: it is a label: what it is worth is what the hold of that sum in a sandbox is worth. -/
noncomputable def Tryz.pinned : Pinned := { name := "ytejpbijeifjdeaagreat", sum := "88e14a4196c47ffcbb2e343cbe5dd52690a5c857ea8a72cb7ea2f2c445f71149", checked := Tryz.checked }
namespace Rows
def none {H : Type} : Left H := { results := [], args := [] }

/-- 'accordionlaw30.MinimalKnown': WHATEVER THE INPUT: true; the input reads as it did. -/
def minimalKnownSpec : ChangeSpec := { name := "minimalKnown", fn := fun _ => fun
  | [] => { results := [.lit (.bool true)], args := [] }
  | _ => none }
def minimalKnownRow : OpenClaim := { program := "ytejpbijeifjdeaagreat", sum := "88e14a4196c47ffcbb2e343cbe5dd52690a5c857ea8a72cb7ea2f2c445f71149", func := "accordion/accordionlaw30.MinimalKnown", spec := "minimalKnown", inPlace := ["internal/bytealg.IndexByte", "internal/bytealg.IndexByteString", "internal/bytealg.abigen_runtime_cmpstring", "internal/abi.NoEscape"], unfollowed := true, recurses := true, plainKeys := false, apart := false }
def MinimalKnownSaid : Prop := minimalKnownRow.holds Tryz.pinned (OpenSpec.ofChange minimalKnownSpec)

/-- ITS FALSE NEIGHBOUR: 'it returns false'. Refute it at one input. -/
def minimalKnownWrong : ChangeSpec := { name := "minimalKnown", fn := fun _ => fun
  | [] => { results := [.lit (.bool false)], args := [] }
  | _ => none }
def MinimalKnownWrongFalsely : Prop := minimalKnownRow.holds Tryz.pinned (OpenSpec.ofChange minimalKnownWrong)

/-- 'accordionlaw28.CoverFree': WHATEVER THE INPUT: true; the input reads as it did. -/
def coverFreeSpec : ChangeSpec := { name := "coverFree", fn := fun _ => fun
  | [d1, d2, d3] => { results := [.lit (.bool true)], args := [d1, d2, d3] }
  | _ => none }
def coverFreeRow : OpenClaim := { program := "ytejpbijeifjdeaagreat", sum := "88e14a4196c47ffcbb2e343cbe5dd52690a5c857ea8a72cb7ea2f2c445f71149", func := "accordion/accordionlaw28.CoverFree", spec := "coverFree", inPlace := ["internal/bytealg.IndexByteString", "internal/bytealg.abigen_runtime_cmpstring", "internal/abi.NoEscape", "internal/bytealg.IndexByte"], unfollowed := true, recurses := true, loops := true, plainKeys := false, apart := false }
def CoverFreeSaid : Prop := coverFreeRow.holds Tryz.pinned (OpenSpec.ofChange coverFreeSpec)

/-- ITS FALSE NEIGHBOUR: 'it returns false'. Refute it at one input. -/
def coverFreeWrong : ChangeSpec := { name := "coverFree", fn := fun _ => fun
  | [d1, d2, d3] => { results := [.lit (.bool false)], args := [d1, d2, d3] }
  | _ => none }
def CoverFreeWrongFalsely : Prop := coverFreeRow.holds Tryz.pinned (OpenSpec.ofChange coverFreeWrong)

/-- 'accordionlaw28.CoverKnown': WHATEVER THE INPUT: true; the input reads as it did. -/
def coverKnownSpec : ChangeSpec := { name := "coverKnown", fn := fun _ => fun
  | [] => { results := [.lit (.bool true)], args := [] }
  | _ => none }
def coverKnownRow : OpenClaim := { program := "ytejpbijeifjdeaagreat", sum := "88e14a4196c47ffcbb2e343cbe5dd52690a5c857ea8a72cb7ea2f2c445f71149", func := "accordion/accordionlaw28.CoverKnown", spec := "coverKnown", inPlace := ["internal/bytealg.IndexByte", "internal/bytealg.IndexByteString", "internal/bytealg.abigen_runtime_cmpstring", "internal/abi.NoEscape"], unfollowed := true, recurses := true, plainKeys := false, apart := false }
def CoverKnownSaid : Prop := coverKnownRow.holds Tryz.pinned (OpenSpec.ofChange coverKnownSpec)

/-- ITS FALSE NEIGHBOUR: 'it returns false'. Refute it at one input. -/
def coverKnownWrong : ChangeSpec := { name := "coverKnown", fn := fun _ => fun
  | [] => { results := [.lit (.bool false)], args := [] }
  | _ => none }
def CoverKnownWrongFalsely : Prop := coverKnownRow.holds Tryz.pinned (OpenSpec.ofChange coverKnownWrong)

/- THE SECOND FORM. 'bulk': how many values and letters a reading holds, each counted each time it is reached (what is shared counts as often as it is met; a slice's spare places count too). A statement '..UptoSaid' is the law's where the arguments, and the package variables that the reading takes, are together of bulk at most 1048576: NARROWER than '..Said'. Prove '..Said' where nothing that the law and all that it calls make is longer than what came in: it says more and counts as full. Else prove '..UptoSaid'. A law counts once. -/
mutual
def uptoBulk {H : Type} : DataW H → Nat
  | .lit (.string bytes) => bytes.length + 1
  | .lit _ => 1
  | .nil => 1
  | .ptr d => uptoBulk d + 1
  | .slice elems spare => uptoBulkAll elems + uptoBulkAll spare + 1
  | .agg parts => uptoBulkAll parts + 1
  | .iface _ d => uptoBulk d + 1
  | .map entries => uptoBulkEntries entries + 1
  | .held _ => 1
def uptoBulkAll {H : Type} : List (DataW H) → Nat
  | [] => 0
  | d :: r => uptoBulk d + uptoBulkAll r
def uptoBulkEntries {H : Type} : List (Lit × DataW H) → Nat
  | [] => 0
  | x :: r => uptoBulkEntry x + uptoBulkEntries r
def uptoBulkEntry {H : Type} : Lit × DataW H → Nat
  | (.string bytes, d) => bytes.length + uptoBulk d + 1
  | (_, d) => uptoBulk d + 1
 end
def uptoSmall : (H : Type) → List (DataW H) → Bool := fun _ ds => decide (uptoBulkAll ds ≤ 1048576)
def OpenSpec.upto (s : _root_.Go.ChangeSpec) : _root_.Go.OpenSpec := { _root_.Go.OpenSpec.ofChange s with cond := some uptoSmall }

/-- 'accordionlaw30.MinimalKnown', WHERE WHAT IT READS IS OF BULK AT MOST 1048576: true; the input reads as it did. -/
def minimalKnownUptoRow : OpenClaim := { program := "ytejpbijeifjdeaagreat", sum := "88e14a4196c47ffcbb2e343cbe5dd52690a5c857ea8a72cb7ea2f2c445f71149", func := "accordion/accordionlaw30.MinimalKnown", spec := "minimalKnown", inPlace := ["internal/bytealg.IndexByte", "internal/bytealg.IndexByteString", "internal/bytealg.abigen_runtime_cmpstring", "internal/abi.NoEscape"], unfollowed := true, recurses := true, plainKeys := false, apart := false, narrowed := true }
def MinimalKnownUptoSaid : Prop := minimalKnownUptoRow.holds Tryz.pinned (OpenSpec.upto minimalKnownSpec)

/-- 'accordionlaw28.CoverFree', WHERE WHAT IT READS IS OF BULK AT MOST 1048576: true; the input reads as it did. -/
def coverFreeUptoRow : OpenClaim := { program := "ytejpbijeifjdeaagreat", sum := "88e14a4196c47ffcbb2e343cbe5dd52690a5c857ea8a72cb7ea2f2c445f71149", func := "accordion/accordionlaw28.CoverFree", spec := "coverFree", inPlace := ["internal/bytealg.IndexByteString", "internal/bytealg.abigen_runtime_cmpstring", "internal/abi.NoEscape", "internal/bytealg.IndexByte"], unfollowed := true, recurses := true, loops := true, plainKeys := false, apart := false, narrowed := true }
def CoverFreeUptoSaid : Prop := coverFreeUptoRow.holds Tryz.pinned (OpenSpec.upto coverFreeSpec)

/-- 'accordionlaw28.CoverKnown', WHERE WHAT IT READS IS OF BULK AT MOST 1048576: true; the input reads as it did. -/
def coverKnownUptoRow : OpenClaim := { program := "ytejpbijeifjdeaagreat", sum := "88e14a4196c47ffcbb2e343cbe5dd52690a5c857ea8a72cb7ea2f2c445f71149", func := "accordion/accordionlaw28.CoverKnown", spec := "coverKnown", inPlace := ["internal/bytealg.IndexByte", "internal/bytealg.IndexByteString", "internal/bytealg.abigen_runtime_cmpstring", "internal/abi.NoEscape"], unfollowed := true, recurses := true, plainKeys := false, apart := false, narrowed := true }
def CoverKnownUptoSaid : Prop := coverKnownUptoRow.holds Tryz.pinned (OpenSpec.upto coverKnownSpec)

end Rows
end Go.Proofs.YtejpbijeifjdeaaGreat
