/-
  No cell of these rows narrows 'for every input' (looked for: loops, veiled, ifaces, maps, wideKeys, modest, calm, conditions, laid).
  DERIVED. THE GIVEN ROWS OF THIS SEAT. 4 by the template 'for every input the law returns true; each argument reads behind the call as it read before'; 0 by the template 'total and deterministic' (their statements: YtejalfjeihlpeaaTotals.lean).
  GIVEN WITH THE SEED: the statements are not yours to turn. If you find one false, say at which input.
  Laid BY PROGRAM, IN A SANDBOX (cutbox-rows.mjs): the forced cells as the released guide's own fill.sh prints them over the translation 5d8c505bf4a0f5f7… (all of the seat's roots in one cut). By AI agents, Wed Nov 11 2026. No macro, syntax, notation, axiom, sorry.
-/
import Derived.Test.YtejalfjeihlpeaaChecked
import GoSem.Claim
import GoSem.ClaimJoined
import GoSem.ClaimMapViews
import Derived.JoinedTies
import Derived.KernelRfl
namespace Go.Proofs.Ytejalfjeihlpeaa
/- THE CELL 'sum', in the pinned program and in every row, IS THE sha256 OF THE DUMP (.gsa) THAT YtejalfjeihlpeaaProg.lean LOADS. Nothing in Lean hashes anything: it is a label: what it is worth is what the hold of that sum in a sandbox is worth. -/
noncomputable def Try.pinned : Pinned := { name := "ytejalfjeihlpeaa", sum := "5d8c505bf4a0f5f764f9805eee00b8fda16e09fba62dad00df4badb09ba72d6b", checked := Try.checked }
namespace Rows
def none {H : Type} : Left H := { results := [], args := [] }

/-- 'accordionlaw28.CoverRises': WHATEVER THE INPUT: true; the input reads as it did. -/
def coverRisesSpec : ChangeSpec := { name := "coverRises", fn := fun _ => fun
  | [d1, d2] => { results := [.lit (.bool true)], args := [d1, d2] }
  | _ => none }
def coverRisesRow : OpenClaim := { program := "ytejalfjeihlpeaa", sum := "5d8c505bf4a0f5f764f9805eee00b8fda16e09fba62dad00df4badb09ba72d6b", func := "accordion/accordionlaw28.CoverRises", spec := "coverRises", inPlace := ["internal/bytealg.IndexByte"], unfollowed := true, recurses := true, plainKeys := false, apart := false }
def CoverRisesSaid : Prop := coverRisesRow.holds Try.pinned (OpenSpec.ofChange coverRisesSpec)

/-- ITS FALSE NEIGHBOUR: 'it returns false'. Refute it at one input. -/
def coverRisesWrong : ChangeSpec := { name := "coverRises", fn := fun _ => fun
  | [d1, d2] => { results := [.lit (.bool false)], args := [d1, d2] }
  | _ => none }
def CoverRisesWrongFalsely : Prop := coverRisesRow.holds Try.pinned (OpenSpec.ofChange coverRisesWrong)

/-- 'accordionlaw28.CoverFuel': WHATEVER THE INPUT: true; the input reads as it did. -/
def coverFuelSpec : ChangeSpec := { name := "coverFuel", fn := fun _ => fun
  | [d1, d2, d3] => { results := [.lit (.bool true)], args := [d1, d2, d3] }
  | _ => none }
def coverFuelRow : OpenClaim := { program := "ytejalfjeihlpeaa", sum := "5d8c505bf4a0f5f764f9805eee00b8fda16e09fba62dad00df4badb09ba72d6b", func := "accordion/accordionlaw28.CoverFuel", spec := "coverFuel", inPlace := ["internal/bytealg.IndexByte"], unfollowed := true, recurses := true, plainKeys := false, apart := false }
def CoverFuelSaid : Prop := coverFuelRow.holds Try.pinned (OpenSpec.ofChange coverFuelSpec)

/-- ITS FALSE NEIGHBOUR: 'it returns false'. Refute it at one input. -/
def coverFuelWrong : ChangeSpec := { name := "coverFuel", fn := fun _ => fun
  | [d1, d2, d3] => { results := [.lit (.bool false)], args := [d1, d2, d3] }
  | _ => none }
def CoverFuelWrongFalsely : Prop := coverFuelRow.holds Try.pinned (OpenSpec.ofChange coverFuelWrong)

/-- 'accordionlaw30.MinimalMoved': WHATEVER THE INPUT: true; the input reads as it did. -/
def minimalMovedSpec : ChangeSpec := { name := "minimalMoved", fn := fun _ => fun
  | [d1, d2] => { results := [.lit (.bool true)], args := [d1, d2] }
  | _ => none }
def minimalMovedRow : OpenClaim := { program := "ytejalfjeihlpeaa", sum := "5d8c505bf4a0f5f764f9805eee00b8fda16e09fba62dad00df4badb09ba72d6b", func := "accordion/accordionlaw30.MinimalMoved", spec := "minimalMoved", inPlace := ["internal/bytealg.IndexByte"], unfollowed := true, recurses := true, plainKeys := false, apart := false }
def MinimalMovedSaid : Prop := minimalMovedRow.holds Try.pinned (OpenSpec.ofChange minimalMovedSpec)

/-- ITS FALSE NEIGHBOUR: 'it returns false'. Refute it at one input. -/
def minimalMovedWrong : ChangeSpec := { name := "minimalMoved", fn := fun _ => fun
  | [d1, d2] => { results := [.lit (.bool false)], args := [d1, d2] }
  | _ => none }
def MinimalMovedWrongFalsely : Prop := minimalMovedRow.holds Try.pinned (OpenSpec.ofChange minimalMovedWrong)

/-- 'accordionlaw30.MinimalErrors': WHATEVER THE INPUT: true; the input reads as it did. -/
def minimalErrorsSpec : ChangeSpec := { name := "minimalErrors", fn := fun _ => fun
  | [d1, d2] => { results := [.lit (.bool true)], args := [d1, d2] }
  | _ => none }
def minimalErrorsRow : OpenClaim := { program := "ytejalfjeihlpeaa", sum := "5d8c505bf4a0f5f764f9805eee00b8fda16e09fba62dad00df4badb09ba72d6b", func := "accordion/accordionlaw30.MinimalErrors", spec := "minimalErrors", inPlace := ["internal/bytealg.IndexByte"], unfollowed := true, recurses := true, plainKeys := false, apart := false }
def MinimalErrorsSaid : Prop := minimalErrorsRow.holds Try.pinned (OpenSpec.ofChange minimalErrorsSpec)

/-- ITS FALSE NEIGHBOUR: 'it returns false'. Refute it at one input. -/
def minimalErrorsWrong : ChangeSpec := { name := "minimalErrors", fn := fun _ => fun
  | [d1, d2] => { results := [.lit (.bool false)], args := [d1, d2] }
  | _ => none }
def MinimalErrorsWrongFalsely : Prop := minimalErrorsRow.holds Try.pinned (OpenSpec.ofChange minimalErrorsWrong)

/- THE SECOND FORM. 'bulk': how many values and letters a reading holds, each counted each time it is reached (what is shared counts as often as it is met; a slice's spare places count too). A statement '..UptoSaid' is the law's where the arguments, and the package variables that the reading takes, are together of bulk at most 1048576: NARROWER than '..Said'. Prove '..Said' where nothing that the law and all that it calls make is longer than what came in: it says more and counts as full. Else prove '..UptoSaid'. A law counts once. -/
mutual
def uptoBulk {H : Type} : DataW H → Nat
  | .lit (.string bytes) => bytes.length + 1
  | .lit _ => 1
  | .nil => 1
  | .ptr d => uptoBulk d + 1
  | .slice elems spare => uptoBulkAll elems + uptoBulkAll spare + 1
  | .agg parts => uptoBulkAll parts + 1
  | .iface _ d => uptoBulk d + 1
  | .map entries => uptoBulkEntries entries + 1
  | .held _ => 1
def uptoBulkAll {H : Type} : List (DataW H) → Nat
  | [] => 0
  | d :: r => uptoBulk d + uptoBulkAll r
def uptoBulkEntries {H : Type} : List (Lit × DataW H) → Nat
  | [] => 0
  | x :: r => uptoBulkEntry x + uptoBulkEntries r
def uptoBulkEntry {H : Type} : Lit × DataW H → Nat
  | (.string bytes, d) => bytes.length + uptoBulk d + 1
  | (_, d) => uptoBulk d + 1
 end
def uptoSmall : (H : Type) → List (DataW H) → Bool := fun _ ds => decide (uptoBulkAll ds ≤ 1048576)
def OpenSpec.upto (s : _root_.Go.ChangeSpec) : _root_.Go.OpenSpec := { _root_.Go.OpenSpec.ofChange s with cond := some uptoSmall }

/-- 'accordionlaw28.CoverRises', WHERE WHAT IT READS IS OF BULK AT MOST 1048576: true; the input reads as it did. -/
def coverRisesUptoRow : OpenClaim := { program := "ytejalfjeihlpeaa", sum := "5d8c505bf4a0f5f764f9805eee00b8fda16e09fba62dad00df4badb09ba72d6b", func := "accordion/accordionlaw28.CoverRises", spec := "coverRises", inPlace := ["internal/bytealg.IndexByte"], unfollowed := true, recurses := true, plainKeys := false, apart := false, narrowed := true }
def CoverRisesUptoSaid : Prop := coverRisesUptoRow.holds Try.pinned (OpenSpec.upto coverRisesSpec)

/-- 'accordionlaw28.CoverFuel', WHERE WHAT IT READS IS OF BULK AT MOST 1048576: true; the input reads as it did. -/
def coverFuelUptoRow : OpenClaim := { program := "ytejalfjeihlpeaa", sum := "5d8c505bf4a0f5f764f9805eee00b8fda16e09fba62dad00df4badb09ba72d6b", func := "accordion/accordionlaw28.CoverFuel", spec := "coverFuel", inPlace := ["internal/bytealg.IndexByte"], unfollowed := true, recurses := true, plainKeys := false, apart := false, narrowed := true }
def CoverFuelUptoSaid : Prop := coverFuelUptoRow.holds Try.pinned (OpenSpec.upto coverFuelSpec)

/-- 'accordionlaw30.MinimalMoved', WHERE WHAT IT READS IS OF BULK AT MOST 1048576: true; the input reads as it did. -/
def minimalMovedUptoRow : OpenClaim := { program := "ytejalfjeihlpeaa", sum := "5d8c505bf4a0f5f764f9805eee00b8fda16e09fba62dad00df4badb09ba72d6b", func := "accordion/accordionlaw30.MinimalMoved", spec := "minimalMoved", inPlace := ["internal/bytealg.IndexByte"], unfollowed := true, recurses := true, plainKeys := false, apart := false, narrowed := true }
def MinimalMovedUptoSaid : Prop := minimalMovedUptoRow.holds Try.pinned (OpenSpec.upto minimalMovedSpec)

/-- 'accordionlaw30.MinimalErrors', WHERE WHAT IT READS IS OF BULK AT MOST 1048576: true; the input reads as it did. -/
def minimalErrorsUptoRow : OpenClaim := { program := "ytejalfjeihlpeaa", sum := "5d8c505bf4a0f5f764f9805eee00b8fda16e09fba62dad00df4badb09ba72d6b", func := "accordion/accordionlaw30.MinimalErrors", spec := "minimalErrors", inPlace := ["internal/bytealg.IndexByte"], unfollowed := true, recurses := true, plainKeys := false, apart := false, narrowed := true }
def MinimalErrorsUptoSaid : Prop := minimalErrorsUptoRow.holds Try.pinned (OpenSpec.upto minimalErrorsSpec)

end Rows
end Go.Proofs.Ytejalfjeihlpeaa
