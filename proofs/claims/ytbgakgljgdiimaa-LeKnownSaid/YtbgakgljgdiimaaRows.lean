/-
  No cell of these rows narrows 'for every input' (looked for: loops, veiled, ifaces, maps, wideKeys, modest, calm, conditions, laid).
  DERIVED. THE GIVEN ROWS OF THIS SEAT. 7 by the template 'for every input the law returns true; each argument reads behind the call as it read before'; 0 by the template 'total and deterministic' (their statements: YtbgakgljgdiimaaTotals.lean).
  GIVEN WITH THE SEED: the statements are not yours to turn. If you find one false, say at which input.
  Laid BY PROGRAM, IN A SANDBOX (cutbox-rows.mjs): the forced cells as the released guide's own fill.sh prints them over the translation a55a343698e8a6c3… (all of the seat's roots in one cut). By AI agents, Wed Nov 11 2026. No macro, syntax, notation, axiom, sorry.
-/
import Derived.Test.YtbgakgljgdiimaaChecked
import GoSem.Claim
import GoSem.ClaimJoined
import GoSem.ClaimMapViews
import Derived.JoinedTies
import Derived.KernelRfl
namespace Go.Proofs.Ytbgakgljgdiimaa
/- THE CELL 'sum', in the pinned program and in every row, IS THE sha256 OF THE DUMP (.gsa) THAT YtbgakgljgdiimaaProg.lean LOADS. Nothing in Lean hashes anything: it is a label: what it is worth is what the hold of that sum in a sandbox is worth. -/
noncomputable def Try.pinned : Pinned := { name := "ytbgakgljgdiimaa", sum := "a55a343698e8a6c31c55e2cde64fe9a2e86d507b1ba20d34b1a055e0e2a6a0a6", checked := Try.checked }
namespace Rows
def none {H : Type} : Left H := { results := [], args := [] }

/-- 'accordionlaw01.LeLoads': WHATEVER THE INPUT: true; the input reads as it did. -/
def leLoadsSpec : ChangeSpec := { name := "leLoads", fn := fun _ => fun
  | [d1, d2, d3] => { results := [.lit (.bool true)], args := [d1, d2, d3] }
  | _ => none }
def leLoadsRow : OpenClaim := { program := "ytbgakgljgdiimaa", sum := "a55a343698e8a6c31c55e2cde64fe9a2e86d507b1ba20d34b1a055e0e2a6a0a6", func := "accordion/accordionlaw01.LeLoads", spec := "leLoads", unfollowed := true, recurses := true, apart := false }
def LeLoadsSaid : Prop := leLoadsRow.holds Try.pinned (OpenSpec.ofChange leLoadsSpec)

/-- ITS FALSE NEIGHBOUR: 'it returns false'. Refute it at one input. -/
def leLoadsWrong : ChangeSpec := { name := "leLoads", fn := fun _ => fun
  | [d1, d2, d3] => { results := [.lit (.bool false)], args := [d1, d2, d3] }
  | _ => none }
def LeLoadsWrongFalsely : Prop := leLoadsRow.holds Try.pinned (OpenSpec.ofChange leLoadsWrong)

/-- 'accordionlaw01.LePuts': WHATEVER THE INPUT: true; the input reads as it did. -/
def lePutsSpec : ChangeSpec := { name := "lePuts", fn := fun _ => fun
  | [d1, d2] => { results := [.lit (.bool true)], args := [d1, d2] }
  | _ => none }
def lePutsRow : OpenClaim := { program := "ytbgakgljgdiimaa", sum := "a55a343698e8a6c31c55e2cde64fe9a2e86d507b1ba20d34b1a055e0e2a6a0a6", func := "accordion/accordionlaw01.LePuts", spec := "lePuts", unfollowed := true, recurses := true, apart := false }
def LePutsSaid : Prop := lePutsRow.holds Try.pinned (OpenSpec.ofChange lePutsSpec)

/-- ITS FALSE NEIGHBOUR: 'it returns false'. Refute it at one input. -/
def lePutsWrong : ChangeSpec := { name := "lePuts", fn := fun _ => fun
  | [d1, d2] => { results := [.lit (.bool false)], args := [d1, d2] }
  | _ => none }
def LePutsWrongFalsely : Prop := lePutsRow.holds Try.pinned (OpenSpec.ofChange lePutsWrong)

/-- 'accordionlaw01.LeBack': WHATEVER THE INPUT: true; the input reads as it did. -/
def leBackSpec : ChangeSpec := { name := "leBack", fn := fun _ => fun
  | [d1, d2, d3] => { results := [.lit (.bool true)], args := [d1, d2, d3] }
  | _ => none }
def leBackRow : OpenClaim := { program := "ytbgakgljgdiimaa", sum := "a55a343698e8a6c31c55e2cde64fe9a2e86d507b1ba20d34b1a055e0e2a6a0a6", func := "accordion/accordionlaw01.LeBack", spec := "leBack", unfollowed := true, recurses := true, apart := false }
def LeBackSaid : Prop := leBackRow.holds Try.pinned (OpenSpec.ofChange leBackSpec)

/-- ITS FALSE NEIGHBOUR: 'it returns false'. Refute it at one input. -/
def leBackWrong : ChangeSpec := { name := "leBack", fn := fun _ => fun
  | [d1, d2, d3] => { results := [.lit (.bool false)], args := [d1, d2, d3] }
  | _ => none }
def LeBackWrongFalsely : Prop := leBackRow.holds Try.pinned (OpenSpec.ofChange leBackWrong)

/-- 'accordionlaw01.LeOnly': WHATEVER THE INPUT: true; the input reads as it did. -/
def leOnlySpec : ChangeSpec := { name := "leOnly", fn := fun _ => fun
  | [d1, d2, d3] => { results := [.lit (.bool true)], args := [d1, d2, d3] }
  | _ => none }
def leOnlyRow : OpenClaim := { program := "ytbgakgljgdiimaa", sum := "a55a343698e8a6c31c55e2cde64fe9a2e86d507b1ba20d34b1a055e0e2a6a0a6", func := "accordion/accordionlaw01.LeOnly", spec := "leOnly", unfollowed := true, recurses := true, apart := false }
def LeOnlySaid : Prop := leOnlyRow.holds Try.pinned (OpenSpec.ofChange leOnlySpec)

/-- ITS FALSE NEIGHBOUR: 'it returns false'. Refute it at one input. -/
def leOnlyWrong : ChangeSpec := { name := "leOnly", fn := fun _ => fun
  | [d1, d2, d3] => { results := [.lit (.bool false)], args := [d1, d2, d3] }
  | _ => none }
def LeOnlyWrongFalsely : Prop := leOnlyRow.holds Try.pinned (OpenSpec.ofChange leOnlyWrong)

/-- 'accordionlaw01.LeSets': WHATEVER THE INPUT: true; the input reads as it did. -/
def leSetsSpec : ChangeSpec := { name := "leSets", fn := fun _ => fun
  | [d1, d2] => { results := [.lit (.bool true)], args := [d1, d2] }
  | _ => none }
def leSetsRow : OpenClaim := { program := "ytbgakgljgdiimaa", sum := "a55a343698e8a6c31c55e2cde64fe9a2e86d507b1ba20d34b1a055e0e2a6a0a6", func := "accordion/accordionlaw01.LeSets", spec := "leSets", unfollowed := true, recurses := true, apart := false }
def LeSetsSaid : Prop := leSetsRow.holds Try.pinned (OpenSpec.ofChange leSetsSpec)

/-- ITS FALSE NEIGHBOUR: 'it returns false'. Refute it at one input. -/
def leSetsWrong : ChangeSpec := { name := "leSets", fn := fun _ => fun
  | [d1, d2] => { results := [.lit (.bool false)], args := [d1, d2] }
  | _ => none }
def LeSetsWrongFalsely : Prop := leSetsRow.holds Try.pinned (OpenSpec.ofChange leSetsWrong)

/-- 'accordionlaw01.LeLonger': WHATEVER THE INPUT: true; the input reads as it did. -/
def leLongerSpec : ChangeSpec := { name := "leLonger", fn := fun _ => fun
  | [d1, d2, d3] => { results := [.lit (.bool true)], args := [d1, d2, d3] }
  | _ => none }
def leLongerRow : OpenClaim := { program := "ytbgakgljgdiimaa", sum := "a55a343698e8a6c31c55e2cde64fe9a2e86d507b1ba20d34b1a055e0e2a6a0a6", func := "accordion/accordionlaw01.LeLonger", spec := "leLonger", unfollowed := true, recurses := true, apart := false }
def LeLongerSaid : Prop := leLongerRow.holds Try.pinned (OpenSpec.ofChange leLongerSpec)

/-- ITS FALSE NEIGHBOUR: 'it returns false'. Refute it at one input. -/
def leLongerWrong : ChangeSpec := { name := "leLonger", fn := fun _ => fun
  | [d1, d2, d3] => { results := [.lit (.bool false)], args := [d1, d2, d3] }
  | _ => none }
def LeLongerWrongFalsely : Prop := leLongerRow.holds Try.pinned (OpenSpec.ofChange leLongerWrong)

/-- 'accordionlaw01.LeKnown': WHATEVER THE INPUT: true; the input reads as it did. -/
def leKnownSpec : ChangeSpec := { name := "leKnown", fn := fun _ => fun
  | [] => { results := [.lit (.bool true)], args := [] }
  | _ => none }
def leKnownRow : OpenClaim := { program := "ytbgakgljgdiimaa", sum := "a55a343698e8a6c31c55e2cde64fe9a2e86d507b1ba20d34b1a055e0e2a6a0a6", func := "accordion/accordionlaw01.LeKnown", spec := "leKnown", unfollowed := true, recurses := true, apart := false }
def LeKnownSaid : Prop := leKnownRow.holds Try.pinned (OpenSpec.ofChange leKnownSpec)

/-- ITS FALSE NEIGHBOUR: 'it returns false'. Refute it at one input. -/
def leKnownWrong : ChangeSpec := { name := "leKnown", fn := fun _ => fun
  | [] => { results := [.lit (.bool false)], args := [] }
  | _ => none }
def LeKnownWrongFalsely : Prop := leKnownRow.holds Try.pinned (OpenSpec.ofChange leKnownWrong)

/- THE SECOND FORM. 'bulk': how many values and letters a reading holds, each counted each time it is reached (what is shared counts as often as it is met; a slice's spare places count too). A statement '..UptoSaid' is the law's where the arguments, and the package variables that the reading takes, are together of bulk at most 1048576: NARROWER than '..Said'. Prove '..Said' where nothing that the law and all that it calls make is longer than what came in: it says more and counts as full. Else prove '..UptoSaid'. A law counts once. -/
mutual
def uptoBulk {H : Type} : DataW H → Nat
  | .lit (.string bytes) => bytes.length + 1
  | .lit _ => 1
  | .nil => 1
  | .ptr d => uptoBulk d + 1
  | .slice elems spare => uptoBulkAll elems + uptoBulkAll spare + 1
  | .agg parts => uptoBulkAll parts + 1
  | .iface _ d => uptoBulk d + 1
  | .map entries => uptoBulkEntries entries + 1
  | .held _ => 1
def uptoBulkAll {H : Type} : List (DataW H) → Nat
  | [] => 0
  | d :: r => uptoBulk d + uptoBulkAll r
def uptoBulkEntries {H : Type} : List (Lit × DataW H) → Nat
  | [] => 0
  | x :: r => uptoBulkEntry x + uptoBulkEntries r
def uptoBulkEntry {H : Type} : Lit × DataW H → Nat
  | (.string bytes, d) => bytes.length + uptoBulk d + 1
  | (_, d) => uptoBulk d + 1
 end
def uptoSmall : (H : Type) → List (DataW H) → Bool := fun _ ds => decide (uptoBulkAll ds ≤ 1048576)
def OpenSpec.upto (s : _root_.Go.ChangeSpec) : _root_.Go.OpenSpec := { _root_.Go.OpenSpec.ofChange s with cond := some uptoSmall }

/-- 'accordionlaw01.LeLoads', WHERE WHAT IT READS IS OF BULK AT MOST 1048576: true; the input reads as it did. -/
def leLoadsUptoRow : OpenClaim := { program := "ytbgakgljgdiimaa", sum := "a55a343698e8a6c31c55e2cde64fe9a2e86d507b1ba20d34b1a055e0e2a6a0a6", func := "accordion/accordionlaw01.LeLoads", spec := "leLoads", unfollowed := true, recurses := true, apart := false, narrowed := true }
def LeLoadsUptoSaid : Prop := leLoadsUptoRow.holds Try.pinned (OpenSpec.upto leLoadsSpec)

/-- 'accordionlaw01.LePuts', WHERE WHAT IT READS IS OF BULK AT MOST 1048576: true; the input reads as it did. -/
def lePutsUptoRow : OpenClaim := { program := "ytbgakgljgdiimaa", sum := "a55a343698e8a6c31c55e2cde64fe9a2e86d507b1ba20d34b1a055e0e2a6a0a6", func := "accordion/accordionlaw01.LePuts", spec := "lePuts", unfollowed := true, recurses := true, apart := false, narrowed := true }
def LePutsUptoSaid : Prop := lePutsUptoRow.holds Try.pinned (OpenSpec.upto lePutsSpec)

/-- 'accordionlaw01.LeBack', WHERE WHAT IT READS IS OF BULK AT MOST 1048576: true; the input reads as it did. -/
def leBackUptoRow : OpenClaim := { program := "ytbgakgljgdiimaa", sum := "a55a343698e8a6c31c55e2cde64fe9a2e86d507b1ba20d34b1a055e0e2a6a0a6", func := "accordion/accordionlaw01.LeBack", spec := "leBack", unfollowed := true, recurses := true, apart := false, narrowed := true }
def LeBackUptoSaid : Prop := leBackUptoRow.holds Try.pinned (OpenSpec.upto leBackSpec)

/-- 'accordionlaw01.LeOnly', WHERE WHAT IT READS IS OF BULK AT MOST 1048576: true; the input reads as it did. -/
def leOnlyUptoRow : OpenClaim := { program := "ytbgakgljgdiimaa", sum := "a55a343698e8a6c31c55e2cde64fe9a2e86d507b1ba20d34b1a055e0e2a6a0a6", func := "accordion/accordionlaw01.LeOnly", spec := "leOnly", unfollowed := true, recurses := true, apart := false, narrowed := true }
def LeOnlyUptoSaid : Prop := leOnlyUptoRow.holds Try.pinned (OpenSpec.upto leOnlySpec)

/-- 'accordionlaw01.LeSets', WHERE WHAT IT READS IS OF BULK AT MOST 1048576: true; the input reads as it did. -/
def leSetsUptoRow : OpenClaim := { program := "ytbgakgljgdiimaa", sum := "a55a343698e8a6c31c55e2cde64fe9a2e86d507b1ba20d34b1a055e0e2a6a0a6", func := "accordion/accordionlaw01.LeSets", spec := "leSets", unfollowed := true, recurses := true, apart := false, narrowed := true }
def LeSetsUptoSaid : Prop := leSetsUptoRow.holds Try.pinned (OpenSpec.upto leSetsSpec)

/-- 'accordionlaw01.LeLonger', WHERE WHAT IT READS IS OF BULK AT MOST 1048576: true; the input reads as it did. -/
def leLongerUptoRow : OpenClaim := { program := "ytbgakgljgdiimaa", sum := "a55a343698e8a6c31c55e2cde64fe9a2e86d507b1ba20d34b1a055e0e2a6a0a6", func := "accordion/accordionlaw01.LeLonger", spec := "leLonger", unfollowed := true, recurses := true, apart := false, narrowed := true }
def LeLongerUptoSaid : Prop := leLongerUptoRow.holds Try.pinned (OpenSpec.upto leLongerSpec)

/-- 'accordionlaw01.LeKnown', WHERE WHAT IT READS IS OF BULK AT MOST 1048576: true; the input reads as it did. -/
def leKnownUptoRow : OpenClaim := { program := "ytbgakgljgdiimaa", sum := "a55a343698e8a6c31c55e2cde64fe9a2e86d507b1ba20d34b1a055e0e2a6a0a6", func := "accordion/accordionlaw01.LeKnown", spec := "leKnown", unfollowed := true, recurses := true, apart := false, narrowed := true }
def LeKnownUptoSaid : Prop := leKnownUptoRow.holds Try.pinned (OpenSpec.upto leKnownSpec)

end Rows
end Go.Proofs.Ytbgakgljgdiimaa
