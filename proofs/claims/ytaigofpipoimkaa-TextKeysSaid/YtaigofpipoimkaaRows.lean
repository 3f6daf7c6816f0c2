/-
  No cell of these rows narrows 'for every input' (looked for: loops, veiled, ifaces, maps, wideKeys, modest, calm, conditions, laid).
  DERIVED. THE GIVEN ROWS OF THIS SEAT. 12 by the template 'for every input the law returns true; each argument reads behind the call as it read before'; 0 by the template 'total and deterministic' (their statements: YtaigofpipoimkaaTotals.lean).
  GIVEN WITH THE SEED: the statements are not yours to turn. If you find one false, say at which input.
  Laid BY PROGRAM, IN A SANDBOX (cutbox-rows.mjs): the forced cells as the released guide's own fill.sh prints them over the translation 78802f9bd1bfca34… (all of the seat's roots in one cut). By AI agents, Wed Nov 11 2026. No macro, syntax, notation, axiom, sorry.
-/
import Derived.Test.YtaigofpipoimkaaChecked
import GoSem.Claim
import GoSem.ClaimJoined
import GoSem.ClaimMapViews
import Derived.JoinedTies
import Derived.KernelRfl
namespace Go.Proofs.Ytaigofpipoimkaa
/- THE CELL 'sum', in the pinned program and in every row, IS THE sha256 OF THE DUMP (.gsa) THAT YtaigofpipoimkaaProg.lean LOADS. Nothing in Lean hashes anything: it is a label: what it is worth is what the hold of that sum in a sandbox is worth. -/
noncomputable def Try.pinned : Pinned := { name := "ytaigofpipoimkaa", sum := "78802f9bd1bfca340b4dc4013af7695c44c478c333c23069b268b9e198d197ca", checked := Try.checked }
namespace Rows
def none {H : Type} : Left H := { results := [], args := [] }

/-- 'accordionlaw21.RefSames': WHATEVER THE INPUT: true; the input reads as it did. -/
def refSamesSpec : ChangeSpec := { name := "refSames", fn := fun _ => fun
  | [d1, d2] => { results := [.lit (.bool true)], args := [d1, d2] }
  | _ => none }
def refSamesRow : OpenClaim := { program := "ytaigofpipoimkaa", sum := "78802f9bd1bfca340b4dc4013af7695c44c478c333c23069b268b9e198d197ca", func := "accordion/accordionlaw21.RefSames", spec := "refSames", unfollowed := true, recurses := true, apart := false }
def RefSamesSaid : Prop := refSamesRow.holds Try.pinned (OpenSpec.ofChange refSamesSpec)

/-- ITS FALSE NEIGHBOUR: 'it returns false'. Refute it at one input. -/
def refSamesWrong : ChangeSpec := { name := "refSames", fn := fun _ => fun
  | [d1, d2] => { results := [.lit (.bool false)], args := [d1, d2] }
  | _ => none }
def RefSamesWrongFalsely : Prop := refSamesRow.holds Try.pinned (OpenSpec.ofChange refSamesWrong)

/-- 'accordionlaw21.RefKnown': WHATEVER THE INPUT: true; the input reads as it did. -/
def refKnownSpec : ChangeSpec := { name := "refKnown", fn := fun _ => fun
  | [] => { results := [.lit (.bool true)], args := [] }
  | _ => none }
def refKnownRow : OpenClaim := { program := "ytaigofpipoimkaa", sum := "78802f9bd1bfca340b4dc4013af7695c44c478c333c23069b268b9e198d197ca", func := "accordion/accordionlaw21.RefKnown", spec := "refKnown", unfollowed := true, recurses := true, apart := false }
def RefKnownSaid : Prop := refKnownRow.holds Try.pinned (OpenSpec.ofChange refKnownSpec)

/-- ITS FALSE NEIGHBOUR: 'it returns false'. Refute it at one input. -/
def refKnownWrong : ChangeSpec := { name := "refKnown", fn := fun _ => fun
  | [] => { results := [.lit (.bool false)], args := [] }
  | _ => none }
def RefKnownWrongFalsely : Prop := refKnownRow.holds Try.pinned (OpenSpec.ofChange refKnownWrong)

/-- 'accordionlaw22.ScalarAs': WHATEVER THE INPUT: true; the input reads as it did. -/
def scalarAsSpec : ChangeSpec := { name := "scalarAs", fn := fun _ => fun
  | [d1, d2] => { results := [.lit (.bool true)], args := [d1, d2] }
  | _ => none }
def scalarAsRow : OpenClaim := { program := "ytaigofpipoimkaa", sum := "78802f9bd1bfca340b4dc4013af7695c44c478c333c23069b268b9e198d197ca", func := "accordion/accordionlaw22.ScalarAs", spec := "scalarAs", unfollowed := true, recurses := true, apart := false }
def ScalarAsSaid : Prop := scalarAsRow.holds Try.pinned (OpenSpec.ofChange scalarAsSpec)

/-- ITS FALSE NEIGHBOUR: 'it returns false'. Refute it at one input. -/
def scalarAsWrong : ChangeSpec := { name := "scalarAs", fn := fun _ => fun
  | [d1, d2] => { results := [.lit (.bool false)], args := [d1, d2] }
  | _ => none }
def ScalarAsWrongFalsely : Prop := scalarAsRow.holds Try.pinned (OpenSpec.ofChange scalarAsWrong)

/-- 'accordionlaw23.TextKeys': WHATEVER THE INPUT: true; the input reads as it did. -/
def textKeysSpec : ChangeSpec := { name := "textKeys", fn := fun _ => fun
  | [d1, d2, d3] => { results := [.lit (.bool true)], args := [d1, d2, d3] }
  | _ => none }
def textKeysRow : OpenClaim := { program := "ytaigofpipoimkaa", sum := "78802f9bd1bfca340b4dc4013af7695c44c478c333c23069b268b9e198d197ca", func := "accordion/accordionlaw23.TextKeys", spec := "textKeys", inPlace := ["internal/bytealg.IndexByte", "internal/bytealg.IndexByteString"], unfollowed := true, recurses := true, apart := false }
def TextKeysSaid : Prop := textKeysRow.holds Try.pinned (OpenSpec.ofChange textKeysSpec)

/-- ITS FALSE NEIGHBOUR: 'it returns false'. Refute it at one input. -/
def textKeysWrong : ChangeSpec := { name := "textKeys", fn := fun _ => fun
  | [d1, d2, d3] => { results := [.lit (.bool false)], args := [d1, d2, d3] }
  | _ => none }
def TextKeysWrongFalsely : Prop := textKeysRow.holds Try.pinned (OpenSpec.ofChange textKeysWrong)

/-- 'accordionlaw24.ListTells': WHATEVER THE INPUT: true; the input reads as it did. -/
def listTellsSpec : ChangeSpec := { name := "listTells", fn := fun _ => fun
  | [d1, d2, d3] => { results := [.lit (.bool true)], args := [d1, d2, d3] }
  | _ => none }
def listTellsRow : OpenClaim := { program := "ytaigofpipoimkaa", sum := "78802f9bd1bfca340b4dc4013af7695c44c478c333c23069b268b9e198d197ca", func := "accordion/accordionlaw24.ListTells", spec := "listTells", unfollowed := true, recurses := true, apart := false }
def ListTellsSaid : Prop := listTellsRow.holds Try.pinned (OpenSpec.ofChange listTellsSpec)

/-- ITS FALSE NEIGHBOUR: 'it returns false'. Refute it at one input. -/
def listTellsWrong : ChangeSpec := { name := "listTells", fn := fun _ => fun
  | [d1, d2, d3] => { results := [.lit (.bool false)], args := [d1, d2, d3] }
  | _ => none }
def ListTellsWrongFalsely : Prop := listTellsRow.holds Try.pinned (OpenSpec.ofChange listTellsWrong)

/-- 'accordionlaw24.ListWithin': WHATEVER THE INPUT: true; the input reads as it did. -/
def listWithinSpec : ChangeSpec := { name := "listWithin", fn := fun _ => fun
  | [d1, d2] => { results := [.lit (.bool true)], args := [d1, d2] }
  | _ => none }
def listWithinRow : OpenClaim := { program := "ytaigofpipoimkaa", sum := "78802f9bd1bfca340b4dc4013af7695c44c478c333c23069b268b9e198d197ca", func := "accordion/accordionlaw24.ListWithin", spec := "listWithin", unfollowed := true, recurses := true, apart := false }
def ListWithinSaid : Prop := listWithinRow.holds Try.pinned (OpenSpec.ofChange listWithinSpec)

/-- ITS FALSE NEIGHBOUR: 'it returns false'. Refute it at one input. -/
def listWithinWrong : ChangeSpec := { name := "listWithin", fn := fun _ => fun
  | [d1, d2] => { results := [.lit (.bool false)], args := [d1, d2] }
  | _ => none }
def ListWithinWrongFalsely : Prop := listWithinRow.holds Try.pinned (OpenSpec.ofChange listWithinWrong)

/-- 'accordionlaw24.ListOwn': WHATEVER THE INPUT: true; the input reads as it did. -/
def listOwnSpec : ChangeSpec := { name := "listOwn", fn := fun _ => fun
  | [d1, d2] => { results := [.lit (.bool true)], args := [d1, d2] }
  | _ => none }
def listOwnRow : OpenClaim := { program := "ytaigofpipoimkaa", sum := "78802f9bd1bfca340b4dc4013af7695c44c478c333c23069b268b9e198d197ca", func := "accordion/accordionlaw24.ListOwn", spec := "listOwn", unfollowed := true, recurses := true, apart := false }
def ListOwnSaid : Prop := listOwnRow.holds Try.pinned (OpenSpec.ofChange listOwnSpec)

/-- ITS FALSE NEIGHBOUR: 'it returns false'. Refute it at one input. -/
def listOwnWrong : ChangeSpec := { name := "listOwn", fn := fun _ => fun
  | [d1, d2] => { results := [.lit (.bool false)], args := [d1, d2] }
  | _ => none }
def ListOwnWrongFalsely : Prop := listOwnRow.holds Try.pinned (OpenSpec.ofChange listOwnWrong)

/-- 'accordionlaw24.ListKnown': WHATEVER THE INPUT: true; the input reads as it did. -/
def listKnownSpec : ChangeSpec := { name := "listKnown", fn := fun _ => fun
  | [] => { results := [.lit (.bool true)], args := [] }
  | _ => none }
def listKnownRow : OpenClaim := { program := "ytaigofpipoimkaa", sum := "78802f9bd1bfca340b4dc4013af7695c44c478c333c23069b268b9e198d197ca", func := "accordion/accordionlaw24.ListKnown", spec := "listKnown", unfollowed := true, recurses := true, apart := false }
def ListKnownSaid : Prop := listKnownRow.holds Try.pinned (OpenSpec.ofChange listKnownSpec)

/-- ITS FALSE NEIGHBOUR: 'it returns false'. Refute it at one input. -/
def listKnownWrong : ChangeSpec := { name := "listKnown", fn := fun _ => fun
  | [] => { results := [.lit (.bool false)], args := [] }
  | _ => none }
def ListKnownWrongFalsely : Prop := listKnownRow.holds Try.pinned (OpenSpec.ofChange listKnownWrong)

/-- 'accordionlaw25.FindKeys': WHATEVER THE INPUT: true; the input reads as it did. -/
def findKeysSpec : ChangeSpec := { name := "findKeys", fn := fun _ => fun
  | [d1, d2, d3] => { results := [.lit (.bool true)], args := [d1, d2, d3] }
  | _ => none }
def findKeysRow : OpenClaim := { program := "ytaigofpipoimkaa", sum := "78802f9bd1bfca340b4dc4013af7695c44c478c333c23069b268b9e198d197ca", func := "accordion/accordionlaw25.FindKeys", spec := "findKeys", inPlace := ["internal/bytealg.IndexByte"], unfollowed := true, recurses := true, apart := false }
def FindKeysSaid : Prop := findKeysRow.holds Try.pinned (OpenSpec.ofChange findKeysSpec)

/-- ITS FALSE NEIGHBOUR: 'it returns false'. Refute it at one input. -/
def findKeysWrong : ChangeSpec := { name := "findKeys", fn := fun _ => fun
  | [d1, d2, d3] => { results := [.lit (.bool false)], args := [d1, d2, d3] }
  | _ => none }
def FindKeysWrongFalsely : Prop := findKeysRow.holds Try.pinned (OpenSpec.ofChange findKeysWrong)

/-- 'accordionlaw25.FindFinds': WHATEVER THE INPUT: true; the input reads as it did. -/
def findFindsSpec : ChangeSpec := { name := "findFinds", fn := fun _ => fun
  | [d1, d2, d3] => { results := [.lit (.bool true)], args := [d1, d2, d3] }
  | _ => none }
def findFindsRow : OpenClaim := { program := "ytaigofpipoimkaa", sum := "78802f9bd1bfca340b4dc4013af7695c44c478c333c23069b268b9e198d197ca", func := "accordion/accordionlaw25.FindFinds", spec := "findFinds", inPlace := ["internal/bytealg.IndexByte"], unfollowed := true, recurses := true, apart := false }
def FindFindsSaid : Prop := findFindsRow.holds Try.pinned (OpenSpec.ofChange findFindsSpec)

/-- ITS FALSE NEIGHBOUR: 'it returns false'. Refute it at one input. -/
def findFindsWrong : ChangeSpec := { name := "findFinds", fn := fun _ => fun
  | [d1, d2, d3] => { results := [.lit (.bool false)], args := [d1, d2, d3] }
  | _ => none }
def FindFindsWrongFalsely : Prop := findFindsRow.holds Try.pinned (OpenSpec.ofChange findFindsWrong)

/-- 'accordionlaw25.FindRising': WHATEVER THE INPUT: true; the input reads as it did. -/
def findRisingSpec : ChangeSpec := { name := "findRising", fn := fun _ => fun
  | [d1, d2, d3] => { results := [.lit (.bool true)], args := [d1, d2, d3] }
  | _ => none }
def findRisingRow : OpenClaim := { program := "ytaigofpipoimkaa", sum := "78802f9bd1bfca340b4dc4013af7695c44c478c333c23069b268b9e198d197ca", func := "accordion/accordionlaw25.FindRising", spec := "findRising", inPlace := ["internal/bytealg.IndexByte"], unfollowed := true, recurses := true, apart := false }
def FindRisingSaid : Prop := findRisingRow.holds Try.pinned (OpenSpec.ofChange findRisingSpec)

/-- ITS FALSE NEIGHBOUR: 'it returns false'. Refute it at one input. -/
def findRisingWrong : ChangeSpec := { name := "findRising", fn := fun _ => fun
  | [d1, d2, d3] => { results := [.lit (.bool false)], args := [d1, d2, d3] }
  | _ => none }
def FindRisingWrongFalsely : Prop := findRisingRow.holds Try.pinned (OpenSpec.ofChange findRisingWrong)

/-- 'accordionlaw25.FindKnown': WHATEVER THE INPUT: true; the input reads as it did. -/
def findKnownSpec : ChangeSpec := { name := "findKnown", fn := fun _ => fun
  | [] => { results := [.lit (.bool true)], args := [] }
  | _ => none }
def findKnownRow : OpenClaim := { program := "ytaigofpipoimkaa", sum := "78802f9bd1bfca340b4dc4013af7695c44c478c333c23069b268b9e198d197ca", func := "accordion/accordionlaw25.FindKnown", spec := "findKnown", inPlace := ["internal/bytealg.IndexByte"], unfollowed := true, recurses := true, apart := false }
def FindKnownSaid : Prop := findKnownRow.holds Try.pinned (OpenSpec.ofChange findKnownSpec)

/-- ITS FALSE NEIGHBOUR: 'it returns false'. Refute it at one input. -/
def findKnownWrong : ChangeSpec := { name := "findKnown", fn := fun _ => fun
  | [] => { results := [.lit (.bool false)], args := [] }
  | _ => none }
def FindKnownWrongFalsely : Prop := findKnownRow.holds Try.pinned (OpenSpec.ofChange findKnownWrong)

/- THE SECOND FORM. 'bulk': how many values and letters a reading holds, each counted each time it is reached (what is shared counts as often as it is met; a slice's spare places count too). A statement '..UptoSaid' is the law's where the arguments, and the package variables that the reading takes, are together of bulk at most 1048576: NARROWER than '..Said'. Prove '..Said' where nothing that the law and all that it calls make is longer than what came in: it says more and counts as full. Else prove '..UptoSaid'. A law counts once. -/
mutual
def uptoBulk {H : Type} : DataW H → Nat
  | .lit (.string bytes) => bytes.length + 1
  | .lit _ => 1
  | .nil => 1
  | .ptr d => uptoBulk d + 1
  | .slice elems spare => uptoBulkAll elems + uptoBulkAll spare + 1
  | .agg parts => uptoBulkAll parts + 1
  | .iface _ d => uptoBulk d + 1
  | .map entries => uptoBulkEntries entries + 1
  | .held _ => 1
def uptoBulkAll {H : Type} : List (DataW H) → Nat
  | [] => 0
  | d :: r => uptoBulk d + uptoBulkAll r
def uptoBulkEntries {H : Type} : List (Lit × DataW H) → Nat
  | [] => 0
  | x :: r => uptoBulkEntry x + uptoBulkEntries r
def uptoBulkEntry {H : Type} : Lit × DataW H → Nat
  | (.string bytes, d) => bytes.length + uptoBulk d + 1
  | (_, d) => uptoBulk d + 1
 end
def uptoSmall : (H : Type) → List (DataW H) → Bool := fun _ ds => decide (uptoBulkAll ds ≤ 1048576)
def OpenSpec.upto (s : _root_.Go.ChangeSpec) : _root_.Go.OpenSpec := { _root_.Go.OpenSpec.ofChange s with cond := some uptoSmall }

/-- 'accordionlaw21.RefSames', WHERE WHAT IT READS IS OF BULK AT MOST 1048576: true; the input reads as it did. -/
def refSamesUptoRow : OpenClaim := { program := "ytaigofpipoimkaa", sum := "78802f9bd1bfca340b4dc4013af7695c44c478c333c23069b268b9e198d197ca", func := "accordion/accordionlaw21.RefSames", spec := "refSames", unfollowed := true, recurses := true, apart := false, narrowed := true }
def RefSamesUptoSaid : Prop := refSamesUptoRow.holds Try.pinned (OpenSpec.upto refSamesSpec)

/-- 'accordionlaw21.RefKnown', WHERE WHAT IT READS IS OF BULK AT MOST 1048576: true; the input reads as it did. -/
def refKnownUptoRow : OpenClaim := { program := "ytaigofpipoimkaa", sum := "78802f9bd1bfca340b4dc4013af7695c44c478c333c23069b268b9e198d197ca", func := "accordion/accordionlaw21.RefKnown", spec := "refKnown", unfollowed := true, recurses := true, apart := false, narrowed := true }
def RefKnownUptoSaid : Prop := refKnownUptoRow.holds Try.pinned (OpenSpec.upto refKnownSpec)

/-- 'accordionlaw22.ScalarAs', WHERE WHAT IT READS IS OF BULK AT MOST 1048576: true; the input reads as it did. -/
def scalarAsUptoRow : OpenClaim := { program := "ytaigofpipoimkaa", sum := "78802f9bd1bfca340b4dc4013af7695c44c478c333c23069b268b9e198d197ca", func := "accordion/accordionlaw22.ScalarAs", spec := "scalarAs", unfollowed := true, recurses := true, apart := false, narrowed := true }
def ScalarAsUptoSaid : Prop := scalarAsUptoRow.holds Try.pinned (OpenSpec.upto scalarAsSpec)

/-- 'accordionlaw23.TextKeys', WHERE WHAT IT READS IS OF BULK AT MOST 1048576: true; the input reads as it did. -/
def textKeysUptoRow : OpenClaim := { program := "ytaigofpipoimkaa", sum := "78802f9bd1bfca340b4dc4013af7695c44c478c333c23069b268b9e198d197ca", func := "accordion/accordionlaw23.TextKeys", spec := "textKeys", inPlace := ["internal/bytealg.IndexByte", "internal/bytealg.IndexByteString"], unfollowed := true, recurses := true, apart := false, narrowed := true }
def TextKeysUptoSaid : Prop := textKeysUptoRow.holds Try.pinned (OpenSpec.upto textKeysSpec)

/-- 'accordionlaw24.ListTells', WHERE WHAT IT READS IS OF BULK AT MOST 1048576: true; the input reads as it did. -/
def listTellsUptoRow : OpenClaim := { program := "ytaigofpipoimkaa", sum := "78802f9bd1bfca340b4dc4013af7695c44c478c333c23069b268b9e198d197ca", func := "accordion/accordionlaw24.ListTells", spec := "listTells", unfollowed := true, recurses := true, apart := false, narrowed := true }
def ListTellsUptoSaid : Prop := listTellsUptoRow.holds Try.pinned (OpenSpec.upto listTellsSpec)

/-- 'accordionlaw24.ListWithin', WHERE WHAT IT READS IS OF BULK AT MOST 1048576: true; the input reads as it did. -/
def listWithinUptoRow : OpenClaim := { program := "ytaigofpipoimkaa", sum := "78802f9bd1bfca340b4dc4013af7695c44c478c333c23069b268b9e198d197ca", func := "accordion/accordionlaw24.ListWithin", spec := "listWithin", unfollowed := true, recurses := true, apart := false, narrowed := true }
def ListWithinUptoSaid : Prop := listWithinUptoRow.holds Try.pinned (OpenSpec.upto listWithinSpec)

/-- 'accordionlaw24.ListOwn', WHERE WHAT IT READS IS OF BULK AT MOST 1048576: true; the input reads as it did. -/
def listOwnUptoRow : OpenClaim := { program := "ytaigofpipoimkaa", sum := "78802f9bd1bfca340b4dc4013af7695c44c478c333c23069b268b9e198d197ca", func := "accordion/accordionlaw24.ListOwn", spec := "listOwn", unfollowed := true, recurses := true, apart := false, narrowed := true }
def ListOwnUptoSaid : Prop := listOwnUptoRow.holds Try.pinned (OpenSpec.upto listOwnSpec)

/-- 'accordionlaw24.ListKnown', WHERE WHAT IT READS IS OF BULK AT MOST 1048576: true; the input reads as it did. -/
def listKnownUptoRow : OpenClaim := { program := "ytaigofpipoimkaa", sum := "78802f9bd1bfca340b4dc4013af7695c44c478c333c23069b268b9e198d197ca", func := "accordion/accordionlaw24.ListKnown", spec := "listKnown", unfollowed := true, recurses := true, apart := false, narrowed := true }
def ListKnownUptoSaid : Prop := listKnownUptoRow.holds Try.pinned (OpenSpec.upto listKnownSpec)

/-- 'accordionlaw25.FindKeys', WHERE WHAT IT READS IS OF BULK AT MOST 1048576: true; the input reads as it did. -/
def findKeysUptoRow : OpenClaim := { program := "ytaigofpipoimkaa", sum := "78802f9bd1bfca340b4dc4013af7695c44c478c333c23069b268b9e198d197ca", func := "accordion/accordionlaw25.FindKeys", spec := "findKeys", inPlace := ["internal/bytealg.IndexByte"], unfollowed := true, recurses := true, apart := false, narrowed := true }
def FindKeysUptoSaid : Prop := findKeysUptoRow.holds Try.pinned (OpenSpec.upto findKeysSpec)

/-- 'accordionlaw25.FindFinds', WHERE WHAT IT READS IS OF BULK AT MOST 1048576: true; the input reads as it did. -/
def findFindsUptoRow : OpenClaim := { program := "ytaigofpipoimkaa", sum := "78802f9bd1bfca340b4dc4013af7695c44c478c333c23069b268b9e198d197ca", func := "accordion/accordionlaw25.FindFinds", spec := "findFinds", inPlace := ["internal/bytealg.IndexByte"], unfollowed := true, recurses := true, apart := false, narrowed := true }
def FindFindsUptoSaid : Prop := findFindsUptoRow.holds Try.pinned (OpenSpec.upto findFindsSpec)

/-- 'accordionlaw25.FindRising', WHERE WHAT IT READS IS OF BULK AT MOST 1048576: true; the input reads as it did. -/
def findRisingUptoRow : OpenClaim := { program := "ytaigofpipoimkaa", sum := "78802f9bd1bfca340b4dc4013af7695c44c478c333c23069b268b9e198d197ca", func := "accordion/accordionlaw25.FindRising", spec := "findRising", inPlace := ["internal/bytealg.IndexByte"], unfollowed := true, recurses := true, apart := false, narrowed := true }
def FindRisingUptoSaid : Prop := findRisingUptoRow.holds Try.pinned (OpenSpec.upto findRisingSpec)

/-- 'accordionlaw25.FindKnown', WHERE WHAT IT READS IS OF BULK AT MOST 1048576: true; the input reads as it did. -/
def findKnownUptoRow : OpenClaim := { program := "ytaigofpipoimkaa", sum := "78802f9bd1bfca340b4dc4013af7695c44c478c333c23069b268b9e198d197ca", func := "accordion/accordionlaw25.FindKnown", spec := "findKnown", inPlace := ["internal/bytealg.IndexByte"], unfollowed := true, recurses := true, apart := false, narrowed := true }
def FindKnownUptoSaid : Prop := findKnownUptoRow.holds Try.pinned (OpenSpec.upto findKnownSpec)

end Rows
end Go.Proofs.Ytaigofpipoimkaa
