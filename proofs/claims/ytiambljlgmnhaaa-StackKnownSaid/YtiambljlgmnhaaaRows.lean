/-
  No cell of these rows narrows 'for every input' (looked for: loops, veiled, ifaces, maps, wideKeys, modest, calm, conditions, laid).
  DERIVED. THE GIVEN ROWS OF THIS SEAT. 6 by the template 'for every input the law returns true; each argument reads behind the call as it read before'; 0 by the template 'total and deterministic' (their statements: YtiambljlgmnhaaaTotals.lean).
  GIVEN WITH THE SEED: the statements are not yours to turn. If you find one false, say at which input.
  Laid BY PROGRAM, IN A SANDBOX (cutbox-rows.mjs): the forced cells as the released guide's own fill.sh prints them over the translation df3ea83027370c5c… (all of the seat's roots in one cut). By AI agents, Wed Nov 11 2026. No macro, syntax, notation, axiom, sorry.
-/
import Derived.Test.YtiambljlgmnhaaaChecked
import GoSem.Claim
import GoSem.ClaimJoined
import GoSem.ClaimMapViews
import Derived.JoinedTies
import Derived.KernelRfl
namespace Go.Proofs.Ytiambljlgmnhaaa
/- THE CELL 'sum', in the pinned program and in every row, IS THE sha256 OF THE DUMP (.gsa) THAT YtiambljlgmnhaaaProg.lean LOADS. Nothing in Lean hashes anything: it is a label: what it is worth is what the hold of that sum in a sandbox is worth. -/
noncomputable def Try.pinned : Pinned := { name := "ytiambljlgmnhaaa", sum := "df3ea83027370c5c7e778cf4b5ff9c29373aae2554c5334da9c9a8b790594219", checked := Try.checked }
namespace Rows
def none {H : Type} : Left H := { results := [], args := [] }

/-- 'accordionlaw14.StackPlays': WHATEVER THE INPUT: true; the input reads as it did. -/
def stackPlaysSpec : ChangeSpec := { name := "stackPlays", fn := fun _ => fun
  | [d] => { results := [.lit (.bool true)], args := [d] }
  | _ => none }
def stackPlaysRow : OpenClaim := { program := "ytiambljlgmnhaaa", sum := "df3ea83027370c5c7e778cf4b5ff9c29373aae2554c5334da9c9a8b790594219", func := "accordion/accordionlaw14.StackPlays", spec := "stackPlays", apart := false }
def StackPlaysSaid : Prop := stackPlaysRow.holds Try.pinned (OpenSpec.ofChange stackPlaysSpec)

/-- ITS FALSE NEIGHBOUR: 'it returns false'. Refute it at one input. -/
def stackPlaysWrong : ChangeSpec := { name := "stackPlays", fn := fun _ => fun
  | [d] => { results := [.lit (.bool false)], args := [d] }
  | _ => none }
def StackPlaysWrongFalsely : Prop := stackPlaysRow.holds Try.pinned (OpenSpec.ofChange stackPlaysWrong)

/-- 'accordionlaw14.StackBack': WHATEVER THE INPUT: true; the input reads as it did. -/
def stackBackSpec : ChangeSpec := { name := "stackBack", fn := fun _ => fun
  | [d1, d2] => { results := [.lit (.bool true)], args := [d1, d2] }
  | _ => none }
def stackBackRow : OpenClaim := { program := "ytiambljlgmnhaaa", sum := "df3ea83027370c5c7e778cf4b5ff9c29373aae2554c5334da9c9a8b790594219", func := "accordion/accordionlaw14.StackBack", spec := "stackBack", apart := false }
def StackBackSaid : Prop := stackBackRow.holds Try.pinned (OpenSpec.ofChange stackBackSpec)

/-- ITS FALSE NEIGHBOUR: 'it returns false'. Refute it at one input. -/
def stackBackWrong : ChangeSpec := { name := "stackBack", fn := fun _ => fun
  | [d1, d2] => { results := [.lit (.bool false)], args := [d1, d2] }
  | _ => none }
def StackBackWrongFalsely : Prop := stackBackRow.holds Try.pinned (OpenSpec.ofChange stackBackWrong)

/-- 'accordionlaw14.StackOnes': WHATEVER THE INPUT: true; the input reads as it did. -/
def stackOnesSpec : ChangeSpec := { name := "stackOnes", fn := fun _ => fun
  | [d1, d2, d3] => { results := [.lit (.bool true)], args := [d1, d2, d3] }
  | _ => none }
def stackOnesRow : OpenClaim := { program := "ytiambljlgmnhaaa", sum := "df3ea83027370c5c7e778cf4b5ff9c29373aae2554c5334da9c9a8b790594219", func := "accordion/accordionlaw14.StackOnes", spec := "stackOnes", apart := false }
def StackOnesSaid : Prop := stackOnesRow.holds Try.pinned (OpenSpec.ofChange stackOnesSpec)

/-- ITS FALSE NEIGHBOUR: 'it returns false'. Refute it at one input. -/
def stackOnesWrong : ChangeSpec := { name := "stackOnes", fn := fun _ => fun
  | [d1, d2, d3] => { results := [.lit (.bool false)], args := [d1, d2, d3] }
  | _ => none }
def StackOnesWrongFalsely : Prop := stackOnesRow.holds Try.pinned (OpenSpec.ofChange stackOnesWrong)

/-- 'accordionlaw14.StackLooks': WHATEVER THE INPUT: true; the input reads as it did. -/
def stackLooksSpec : ChangeSpec := { name := "stackLooks", fn := fun _ => fun
  | [d1, d2] => { results := [.lit (.bool true)], args := [d1, d2] }
  | _ => none }
def stackLooksRow : OpenClaim := { program := "ytiambljlgmnhaaa", sum := "df3ea83027370c5c7e778cf4b5ff9c29373aae2554c5334da9c9a8b790594219", func := "accordion/accordionlaw14.StackLooks", spec := "stackLooks", apart := false }
def StackLooksSaid : Prop := stackLooksRow.holds Try.pinned (OpenSpec.ofChange stackLooksSpec)

/-- ITS FALSE NEIGHBOUR: 'it returns false'. Refute it at one input. -/
def stackLooksWrong : ChangeSpec := { name := "stackLooks", fn := fun _ => fun
  | [d1, d2] => { results := [.lit (.bool false)], args := [d1, d2] }
  | _ => none }
def StackLooksWrongFalsely : Prop := stackLooksRow.holds Try.pinned (OpenSpec.ofChange stackLooksWrong)

/-- 'accordionlaw14.StackWhole': WHATEVER THE INPUT: true; the input reads as it did. -/
def stackWholeSpec : ChangeSpec := { name := "stackWhole", fn := fun _ => fun
  | [d1, d2] => { results := [.lit (.bool true)], args := [d1, d2] }
  | _ => none }
def stackWholeRow : OpenClaim := { program := "ytiambljlgmnhaaa", sum := "df3ea83027370c5c7e778cf4b5ff9c29373aae2554c5334da9c9a8b790594219", func := "accordion/accordionlaw14.StackWhole", spec := "stackWhole", apart := false }
def StackWholeSaid : Prop := stackWholeRow.holds Try.pinned (OpenSpec.ofChange stackWholeSpec)

/-- ITS FALSE NEIGHBOUR: 'it returns false'. Refute it at one input. -/
def stackWholeWrong : ChangeSpec := { name := "stackWhole", fn := fun _ => fun
  | [d1, d2] => { results := [.lit (.bool false)], args := [d1, d2] }
  | _ => none }
def StackWholeWrongFalsely : Prop := stackWholeRow.holds Try.pinned (OpenSpec.ofChange stackWholeWrong)

/-- 'accordionlaw14.StackKnown': WHATEVER THE INPUT: true; the input reads as it did. -/
def stackKnownSpec : ChangeSpec := { name := "stackKnown", fn := fun _ => fun
  | [] => { results := [.lit (.bool true)], args := [] }
  | _ => none }
def stackKnownRow : OpenClaim := { program := "ytiambljlgmnhaaa", sum := "df3ea83027370c5c7e778cf4b5ff9c29373aae2554c5334da9c9a8b790594219", func := "accordion/accordionlaw14.StackKnown", spec := "stackKnown", apart := false }
def StackKnownSaid : Prop := stackKnownRow.holds Try.pinned (OpenSpec.ofChange stackKnownSpec)

/-- ITS FALSE NEIGHBOUR: 'it returns false'. Refute it at one input. -/
def stackKnownWrong : ChangeSpec := { name := "stackKnown", fn := fun _ => fun
  | [] => { results := [.lit (.bool false)], args := [] }
  | _ => none }
def StackKnownWrongFalsely : Prop := stackKnownRow.holds Try.pinned (OpenSpec.ofChange stackKnownWrong)

/- THE SECOND FORM. 'bulk': how many values and letters a reading holds, each counted each time it is reached (what is shared counts as often as it is met; a slice's spare places count too). A statement '..UptoSaid' is the law's where the arguments, and the package variables that the reading takes, are together of bulk at most 1048576: NARROWER than '..Said'. Prove '..Said' where nothing that the law and all that it calls make is longer than what came in: it says more and counts as full. Else prove '..UptoSaid'. A law counts once. -/
mutual
def uptoBulk {H : Type} : DataW H → Nat
  | .lit (.string bytes) => bytes.length + 1
  | .lit _ => 1
  | .nil => 1
  | .ptr d => uptoBulk d + 1
  | .slice elems spare => uptoBulkAll elems + uptoBulkAll spare + 1
  | .agg parts => uptoBulkAll parts + 1
  | .iface _ d => uptoBulk d + 1
  | .map entries => uptoBulkEntries entries + 1
  | .held _ => 1
def uptoBulkAll {H : Type} : List (DataW H) → Nat
  | [] => 0
  | d :: r => uptoBulk d + uptoBulkAll r
def uptoBulkEntries {H : Type} : List (Lit × DataW H) → Nat
  | [] => 0
  | x :: r => uptoBulkEntry x + uptoBulkEntries r
def uptoBulkEntry {H : Type} : Lit × DataW H → Nat
  | (.string bytes, d) => bytes.length + uptoBulk d + 1
  | (_, d) => uptoBulk d + 1
 end
def uptoSmall : (H : Type) → List (DataW H) → Bool := fun _ ds => decide (uptoBulkAll ds ≤ 1048576)
def OpenSpec.upto (s : _root_.Go.ChangeSpec) : _root_.Go.OpenSpec := { _root_.Go.OpenSpec.ofChange s with cond := some uptoSmall }

/-- 'accordionlaw14.StackPlays', WHERE WHAT IT READS IS OF BULK AT MOST 1048576: true; the input reads as it did. -/
def stackPlaysUptoRow : OpenClaim := { program := "ytiambljlgmnhaaa", sum := "df3ea83027370c5c7e778cf4b5ff9c29373aae2554c5334da9c9a8b790594219", func := "accordion/accordionlaw14.StackPlays", spec := "stackPlays", apart := false, narrowed := true }
def StackPlaysUptoSaid : Prop := stackPlaysUptoRow.holds Try.pinned (OpenSpec.upto stackPlaysSpec)

/-- 'accordionlaw14.StackBack', WHERE WHAT IT READS IS OF BULK AT MOST 1048576: true; the input reads as it did. -/
def stackBackUptoRow : OpenClaim := { program := "ytiambljlgmnhaaa", sum := "df3ea83027370c5c7e778cf4b5ff9c29373aae2554c5334da9c9a8b790594219", func := "accordion/accordionlaw14.StackBack", spec := "stackBack", apart := false, narrowed := true }
def StackBackUptoSaid : Prop := stackBackUptoRow.holds Try.pinned (OpenSpec.upto stackBackSpec)

/-- 'accordionlaw14.StackOnes', WHERE WHAT IT READS IS OF BULK AT MOST 1048576: true; the input reads as it did. -/
def stackOnesUptoRow : OpenClaim := { program := "ytiambljlgmnhaaa", sum := "df3ea83027370c5c7e778cf4b5ff9c29373aae2554c5334da9c9a8b790594219", func := "accordion/accordionlaw14.StackOnes", spec := "stackOnes", apart := false, narrowed := true }
def StackOnesUptoSaid : Prop := stackOnesUptoRow.holds Try.pinned (OpenSpec.upto stackOnesSpec)

/-- 'accordionlaw14.StackLooks', WHERE WHAT IT READS IS OF BULK AT MOST 1048576: true; the input reads as it did. -/
def stackLooksUptoRow : OpenClaim := { program := "ytiambljlgmnhaaa", sum := "df3ea83027370c5c7e778cf4b5ff9c29373aae2554c5334da9c9a8b790594219", func := "accordion/accordionlaw14.StackLooks", spec := "stackLooks", apart := false, narrowed := true }
def StackLooksUptoSaid : Prop := stackLooksUptoRow.holds Try.pinned (OpenSpec.upto stackLooksSpec)

/-- 'accordionlaw14.StackWhole', WHERE WHAT IT READS IS OF BULK AT MOST 1048576: true; the input reads as it did. -/
def stackWholeUptoRow : OpenClaim := { program := "ytiambljlgmnhaaa", sum := "df3ea83027370c5c7e778cf4b5ff9c29373aae2554c5334da9c9a8b790594219", func := "accordion/accordionlaw14.StackWhole", spec := "stackWhole", apart := false, narrowed := true }
def StackWholeUptoSaid : Prop := stackWholeUptoRow.holds Try.pinned (OpenSpec.upto stackWholeSpec)

/-- 'accordionlaw14.StackKnown', WHERE WHAT IT READS IS OF BULK AT MOST 1048576: true; the input reads as it did. -/
def stackKnownUptoRow : OpenClaim := { program := "ytiambljlgmnhaaa", sum := "df3ea83027370c5c7e778cf4b5ff9c29373aae2554c5334da9c9a8b790594219", func := "accordion/accordionlaw14.StackKnown", spec := "stackKnown", apart := false, narrowed := true }
def StackKnownUptoSaid : Prop := stackKnownUptoRow.holds Try.pinned (OpenSpec.upto stackKnownSpec)

end Rows
end Go.Proofs.Ytiambljlgmnhaaa
