/-
  No cell of these rows narrows 'for every input' (looked for: loops, veiled, ifaces, maps, wideKeys, modest, calm, conditions, laid).
  DERIVED. THE GIVEN ROWS OF THIS SEAT. 4 by the template 'for every input the law returns true; each argument reads behind the call as it read before'; 0 by the template 'total and deterministic' (their statements: YtejalfjeihlpeaaGreatTotals.lean).
  GIVEN WITH THE SEED: the statements are not yours to turn. If you find one false, say at which input.
  Laid BY PROGRAM, IN A SANDBOX (cutbox-rows.mjs): the forced cells as the released guide's own fill.sh prints them over the translation 4d394c7102962a29… (all of the seat's roots in one cut). By AI agents, Wed Nov 11 2026. No macro, syntax, notation, axiom, sorry.
-/
import Derived.Test.YtejalfjeihlpeaaGreatChecked
import GoSem.Claim
import GoSem.ClaimJoined
import GoSem.ClaimMapViews
import Derived.JoinedTies
import Derived.KernelRfl
namespace Go.Proofs.YtejalfjeihlpeaaGreat
/- THE CELL 'sum', in the pinned program and in every row, IS THE sha256 OF THE DUMP (.gsa) THAT YtejalfjeihlpeaaGreatProg.lean LOADS. Nothing in Lean hashes anything: it is a label: what it is worth is what the hold of that sum in a sandbox is worth. -/
noncomputable def Tryz.pinned : Pinned := { name := "ytejalfjeihlpeaagreat", sum := "4d394c7102962a29c3f7c46bb201e09e13c154e3b611f55efa3928140a4cda0a", checked := Tryz.checked }
namespace Rows
def none {H : Type} : Left H := { results := [], args := [] }

/-- 'accordionlaw28.CoverTells': WHATEVER THE INPUT: true; the input reads as it did. -/
def coverTellsSpec : ChangeSpec := { name := "coverTells", fn := fun _ => fun
  | [d1, d2] => { results := [.lit (.bool true)], args := [d1, d2] }
  | _ => none }
def coverTellsRow : OpenClaim := { program := "ytejalfjeihlpeaagreat", sum := "4d394c7102962a29c3f7c46bb201e09e13c154e3b611f55efa3928140a4cda0a", func := "accordion/accordionlaw28.CoverTells", spec := "coverTells", inPlace := ["internal/bytealg.IndexByte"], unfollowed := true, recurses := true, plainKeys := false, apart := false }
def CoverTellsSaid : Prop := coverTellsRow.holds Tryz.pinned (OpenSpec.ofChange coverTellsSpec)

/-- ITS FALSE NEIGHBOUR: 'it returns false'. Refute it at one input. -/
def coverTellsWrong : ChangeSpec := { name := "coverTells", fn := fun _ => fun
  | [d1, d2] => { results := [.lit (.bool false)], args := [d1, d2] }
  | _ => none }
def CoverTellsWrongFalsely : Prop := coverTellsRow.holds Tryz.pinned (OpenSpec.ofChange coverTellsWrong)

/-- 'accordionlaw30.MinimalTells': WHATEVER THE INPUT: true; the input reads as it did. -/
def minimalTellsSpec : ChangeSpec := { name := "minimalTells", fn := fun _ => fun
  | [d1, d2] => { results := [.lit (.bool true)], args := [d1, d2] }
  | _ => none }
def minimalTellsRow : OpenClaim := { program := "ytejalfjeihlpeaagreat", sum := "4d394c7102962a29c3f7c46bb201e09e13c154e3b611f55efa3928140a4cda0a", func := "accordion/accordionlaw30.MinimalTells", spec := "minimalTells", inPlace := ["internal/bytealg.IndexByte"], unfollowed := true, recurses := true, plainKeys := false, apart := false }
def MinimalTellsSaid : Prop := minimalTellsRow.holds Tryz.pinned (OpenSpec.ofChange minimalTellsSpec)

/-- ITS FALSE NEIGHBOUR: 'it returns false'. Refute it at one input. -/
def minimalTellsWrong : ChangeSpec := { name := "minimalTells", fn := fun _ => fun
  | [d1, d2] => { results := [.lit (.bool false)], args := [d1, d2] }
  | _ => none }
def MinimalTellsWrongFalsely : Prop := minimalTellsRow.holds Tryz.pinned (OpenSpec.ofChange minimalTellsWrong)

/-- 'accordionlaw30.MinimalLists': WHATEVER THE INPUT: true; the input reads as it did. -/
def minimalListsSpec : ChangeSpec := { name := "minimalLists", fn := fun _ => fun
  | [d1, d2, d3] => { results := [.lit (.bool true)], args := [d1, d2, d3] }
  | _ => none }
def minimalListsRow : OpenClaim := { program := "ytejalfjeihlpeaagreat", sum := "4d394c7102962a29c3f7c46bb201e09e13c154e3b611f55efa3928140a4cda0a", func := "accordion/accordionlaw30.MinimalLists", spec := "minimalLists", inPlace := ["internal/bytealg.IndexByte"], unfollowed := true, recurses := true, plainKeys := false, apart := false }
def MinimalListsSaid : Prop := minimalListsRow.holds Tryz.pinned (OpenSpec.ofChange minimalListsSpec)

/-- ITS FALSE NEIGHBOUR: 'it returns false'. Refute it at one input. -/
def minimalListsWrong : ChangeSpec := { name := "minimalLists", fn := fun _ => fun
  | [d1, d2, d3] => { results := [.lit (.bool false)], args := [d1, d2, d3] }
  | _ => none }
def MinimalListsWrongFalsely : Prop := minimalListsRow.holds Tryz.pinned (OpenSpec.ofChange minimalListsWrong)

/-- 'accordionlaw30.MinimalRoots': WHATEVER THE INPUT: true; the input reads as it did. -/
def minimalRootsSpec : ChangeSpec := { name := "minimalRoots", fn := fun _ => fun
  | [d1, d2, d3] => { results := [.lit (.bool true)], args := [d1, d2, d3] }
  | _ => none }
def minimalRootsRow : OpenClaim := { program := "ytejalfjeihlpeaagreat", sum := "4d394c7102962a29c3f7c46bb201e09e13c154e3b611f55efa3928140a4cda0a", func := "accordion/accordionlaw30.MinimalRoots", spec := "minimalRoots", inPlace := ["internal/bytealg.IndexByte"], unfollowed := true, recurses := true, plainKeys := false, apart := false }
def MinimalRootsSaid : Prop := minimalRootsRow.holds Tryz.pinned (OpenSpec.ofChange minimalRootsSpec)

/-- ITS FALSE NEIGHBOUR: 'it returns false'. Refute it at one input. -/
def minimalRootsWrong : ChangeSpec := { name := "minimalRoots", fn := fun _ => fun
  | [d1, d2, d3] => { results := [.lit (.bool false)], args := [d1, d2, d3] }
  | _ => none }
def MinimalRootsWrongFalsely : Prop := minimalRootsRow.holds Tryz.pinned (OpenSpec.ofChange minimalRootsWrong)

/- THE SECOND FORM. 'bulk': how many values and letters a reading holds, each counted each time it is reached (what is shared counts as often as it is met; a slice's spare places count too). A statement '..UptoSaid' is the law's where the arguments, and the package variables that the reading takes, are together of bulk at most 1048576: NARROWER than '..Said'. Prove '..Said' where nothing that the law and all that it calls make is longer than what came in: it says more and counts as full. Else prove '..UptoSaid'. A law counts once. -/
mutual
def uptoBulk {H : Type} : DataW H → Nat
  | .lit (.string bytes) => bytes.length + 1
  | .lit _ => 1
  | .nil => 1
  | .ptr d => uptoBulk d + 1
  | .slice elems spare => uptoBulkAll elems + uptoBulkAll spare + 1
  | .agg parts => uptoBulkAll parts + 1
  | .iface _ d => uptoBulk d + 1
  | .map entries => uptoBulkEntries entries + 1
  | .held _ => 1
def uptoBulkAll {H : Type} : List (DataW H) → Nat
  | [] => 0
  | d :: r => uptoBulk d + uptoBulkAll r
def uptoBulkEntries {H : Type} : List (Lit × DataW H) → Nat
  | [] => 0
  | x :: r => uptoBulkEntry x + uptoBulkEntries r
def uptoBulkEntry {H : Type} : Lit × DataW H → Nat
  | (.string bytes, d) => bytes.length + uptoBulk d + 1
  | (_, d) => uptoBulk d + 1
 end
def uptoSmall : (H : Type) → List (DataW H) → Bool := fun _ ds => decide (uptoBulkAll ds ≤ 1048576)
def OpenSpec.upto (s : _root_.Go.ChangeSpec) : _root_.Go.OpenSpec := { _root_.Go.OpenSpec.ofChange s with cond := some uptoSmall }

/-- 'accordionlaw28.CoverTells', WHERE WHAT IT READS IS OF BULK AT MOST 1048576: true; the input reads as it did. -/
def coverTellsUptoRow : OpenClaim := { program := "ytejalfjeihlpeaagreat", sum := "4d394c7102962a29c3f7c46bb201e09e13c154e3b611f55efa3928140a4cda0a", func := "accordion/accordionlaw28.CoverTells", spec := "coverTells", inPlace := ["internal/bytealg.IndexByte"], unfollowed := true, recurses := true, plainKeys := false, apart := false, narrowed := true }
def CoverTellsUptoSaid : Prop := coverTellsUptoRow.holds Tryz.pinned (OpenSpec.upto coverTellsSpec)

/-- 'accordionlaw30.MinimalTells', WHERE WHAT IT READS IS OF BULK AT MOST 1048576: true; the input reads as it did. -/
def minimalTellsUptoRow : OpenClaim := { program := "ytejalfjeihlpeaagreat", sum := "4d394c7102962a29c3f7c46bb201e09e13c154e3b611f55efa3928140a4cda0a", func := "accordion/accordionlaw30.MinimalTells", spec := "minimalTells", inPlace := ["internal/bytealg.IndexByte"], unfollowed := true, recurses := true, plainKeys := false, apart := false, narrowed := true }
def MinimalTellsUptoSaid : Prop := minimalTellsUptoRow.holds Tryz.pinned (OpenSpec.upto minimalTellsSpec)

/-- 'accordionlaw30.MinimalLists', WHERE WHAT IT READS IS OF BULK AT MOST 1048576: true; the input reads as it did. -/
def minimalListsUptoRow : OpenClaim := { program := "ytejalfjeihlpeaagreat", sum := "4d394c7102962a29c3f7c46bb201e09e13c154e3b611f55efa3928140a4cda0a", func := "accordion/accordionlaw30.MinimalLists", spec := "minimalLists", inPlace := ["internal/bytealg.IndexByte"], unfollowed := true, recurses := true, plainKeys := false, apart := false, narrowed := true }
def MinimalListsUptoSaid : Prop := minimalListsUptoRow.holds Tryz.pinned (OpenSpec.upto minimalListsSpec)

/-- 'accordionlaw30.MinimalRoots', WHERE WHAT IT READS IS OF BULK AT MOST 1048576: true; the input reads as it did. -/
def minimalRootsUptoRow : OpenClaim := { program := "ytejalfjeihlpeaagreat", sum := "4d394c7102962a29c3f7c46bb201e09e13c154e3b611f55efa3928140a4cda0a", func := "accordion/accordionlaw30.MinimalRoots", spec := "minimalRoots", inPlace := ["internal/bytealg.IndexByte"], unfollowed := true, recurses := true, plainKeys := false, apart := false, narrowed := true }
def MinimalRootsUptoSaid : Prop := minimalRootsUptoRow.holds Tryz.pinned (OpenSpec.upto minimalRootsSpec)

end Rows
end Go.Proofs.YtejalfjeihlpeaaGreat
