/-
  No cell of these rows narrows 'for every input' (looked for: loops, veiled, ifaces, maps, wideKeys, modest, calm, conditions, laid).
  DERIVED. THE GIVEN ROWS OF THIS SEAT. 11 by the template 'for every input the law returns true; each argument reads behind the call as it read before'; 0 by the template 'total and deterministic' (their statements: YtdoagpophikgjaaTotals.lean).
  GIVEN WITH THE SEED: the statements are not yours to turn. If you find one false, say at which input.
  Laid BY PROGRAM, IN A SANDBOX (cutbox-rows.mjs): the forced cells as the released guide's own fill.sh prints them over the translation 282ac894a4e7147a… (all of the seat's roots in one cut). By AI agents, Wed Nov 11 2026. No macro, syntax, notation, axiom, sorry.
-/
import Derived.Test.YtdoagpophikgjaaChecked
import GoSem.Claim
import GoSem.ClaimJoined
import GoSem.ClaimMapViews
import Derived.JoinedTies
import Derived.KernelRfl
namespace Go.Proofs.Ytdoagpophikgjaa
/- THE CELL 'sum', in the pinned program and in every row, IS THE sha256 OF THE DUMP (.gsa) THAT YtdoagpophikgjaaProg.lean LOADS. Nothing in Lean hashes anything: it is a label: what it is worth is what the hold of that sum in a sandbox is worth. -/
noncomputable def Try.pinned : Pinned := { name := "ytdoagpophikgjaa", sum := "282ac894a4e7147a3147462269d0d7d9512815cbc36312933f42235057a6fed8", checked := Try.checked }
namespace Rows
def none {H : Type} : Left H := { results := [], args := [] }

/-- 'accordionlaw21.RefRoots': WHATEVER THE INPUT: true; the input reads as it did. -/
def refRootsSpec : ChangeSpec := { name := "refRoots", fn := fun _ => fun
  | [d] => { results := [.lit (.bool true)], args := [d] }
  | _ => none }
def refRootsRow : OpenClaim := { program := "ytdoagpophikgjaa", sum := "282ac894a4e7147a3147462269d0d7d9512815cbc36312933f42235057a6fed8", func := "accordion/accordionlaw21.RefRoots", spec := "refRoots", unfollowed := true, recurses := true, apart := false }
def RefRootsSaid : Prop := refRootsRow.holds Try.pinned (OpenSpec.ofChange refRootsSpec)

/-- ITS FALSE NEIGHBOUR: 'it returns false'. Refute it at one input. -/
def refRootsWrong : ChangeSpec := { name := "refRoots", fn := fun _ => fun
  | [d] => { results := [.lit (.bool false)], args := [d] }
  | _ => none }
def RefRootsWrongFalsely : Prop := refRootsRow.holds Try.pinned (OpenSpec.ofChange refRootsWrong)

/-- 'accordionlaw21.RefEnds': WHATEVER THE INPUT: true; the input reads as it did. -/
def refEndsSpec : ChangeSpec := { name := "refEnds", fn := fun _ => fun
  | [d1, d2, d3] => { results := [.lit (.bool true)], args := [d1, d2, d3] }
  | _ => none }
def refEndsRow : OpenClaim := { program := "ytdoagpophikgjaa", sum := "282ac894a4e7147a3147462269d0d7d9512815cbc36312933f42235057a6fed8", func := "accordion/accordionlaw21.RefEnds", spec := "refEnds", unfollowed := true, recurses := true, apart := false }
def RefEndsSaid : Prop := refEndsRow.holds Try.pinned (OpenSpec.ofChange refEndsSpec)

/-- ITS FALSE NEIGHBOUR: 'it returns false'. Refute it at one input. -/
def refEndsWrong : ChangeSpec := { name := "refEnds", fn := fun _ => fun
  | [d1, d2, d3] => { results := [.lit (.bool false)], args := [d1, d2, d3] }
  | _ => none }
def RefEndsWrongFalsely : Prop := refEndsRow.holds Try.pinned (OpenSpec.ofChange refEndsWrong)

/-- 'accordionlaw21.RefTells': WHATEVER THE INPUT: true; the input reads as it did. -/
def refTellsSpec : ChangeSpec := { name := "refTells", fn := fun _ => fun
  | [d1, d2, d3] => { results := [.lit (.bool true)], args := [d1, d2, d3] }
  | _ => none }
def refTellsRow : OpenClaim := { program := "ytdoagpophikgjaa", sum := "282ac894a4e7147a3147462269d0d7d9512815cbc36312933f42235057a6fed8", func := "accordion/accordionlaw21.RefTells", spec := "refTells", unfollowed := true, recurses := true, apart := false }
def RefTellsSaid : Prop := refTellsRow.holds Try.pinned (OpenSpec.ofChange refTellsSpec)

/-- ITS FALSE NEIGHBOUR: 'it returns false'. Refute it at one input. -/
def refTellsWrong : ChangeSpec := { name := "refTells", fn := fun _ => fun
  | [d1, d2, d3] => { results := [.lit (.bool false)], args := [d1, d2, d3] }
  | _ => none }
def RefTellsWrongFalsely : Prop := refTellsRow.holds Try.pinned (OpenSpec.ofChange refTellsWrong)

/-- 'accordionlaw21.RefSames': WHATEVER THE INPUT: true; the input reads as it did. -/
def refSamesSpec : ChangeSpec := { name := "refSames", fn := fun _ => fun
  | [d1, d2] => { results := [.lit (.bool true)], args := [d1, d2] }
  | _ => none }
def refSamesRow : OpenClaim := { program := "ytdoagpophikgjaa", sum := "282ac894a4e7147a3147462269d0d7d9512815cbc36312933f42235057a6fed8", func := "accordion/accordionlaw21.RefSames", spec := "refSames", unfollowed := true, recurses := true, apart := false }
def RefSamesSaid : Prop := refSamesRow.holds Try.pinned (OpenSpec.ofChange refSamesSpec)

/-- ITS FALSE NEIGHBOUR: 'it returns false'. Refute it at one input. -/
def refSamesWrong : ChangeSpec := { name := "refSames", fn := fun _ => fun
  | [d1, d2] => { results := [.lit (.bool false)], args := [d1, d2] }
  | _ => none }
def RefSamesWrongFalsely : Prop := refSamesRow.holds Try.pinned (OpenSpec.ofChange refSamesWrong)

/-- 'accordionlaw21.RefKnown': WHATEVER THE INPUT: true; the input reads as it did. -/
def refKnownSpec : ChangeSpec := { name := "refKnown", fn := fun _ => fun
  | [] => { results := [.lit (.bool true)], args := [] }
  | _ => none }
def refKnownRow : OpenClaim := { program := "ytdoagpophikgjaa", sum := "282ac894a4e7147a3147462269d0d7d9512815cbc36312933f42235057a6fed8", func := "accordion/accordionlaw21.RefKnown", spec := "refKnown", unfollowed := true, recurses := true, apart := false }
def RefKnownSaid : Prop := refKnownRow.holds Try.pinned (OpenSpec.ofChange refKnownSpec)

/-- ITS FALSE NEIGHBOUR: 'it returns false'. Refute it at one input. -/
def refKnownWrong : ChangeSpec := { name := "refKnown", fn := fun _ => fun
  | [] => { results := [.lit (.bool false)], args := [] }
  | _ => none }
def RefKnownWrongFalsely : Prop := refKnownRow.holds Try.pinned (OpenSpec.ofChange refKnownWrong)

/-- 'accordionlaw21.RefBack': WHATEVER THE INPUT: true; the input reads as it did. -/
def refBackSpec : ChangeSpec := { name := "refBack", fn := fun _ => fun
  | [d1, d2, d3] => { results := [.lit (.bool true)], args := [d1, d2, d3] }
  | _ => none }
def refBackRow : OpenClaim := { program := "ytdoagpophikgjaa", sum := "282ac894a4e7147a3147462269d0d7d9512815cbc36312933f42235057a6fed8", func := "accordion/accordionlaw21.RefBack", spec := "refBack", unfollowed := true, recurses := true, apart := false }
def RefBackSaid : Prop := refBackRow.holds Try.pinned (OpenSpec.ofChange refBackSpec)

/-- ITS FALSE NEIGHBOUR: 'it returns false'. Refute it at one input. -/
def refBackWrong : ChangeSpec := { name := "refBack", fn := fun _ => fun
  | [d1, d2, d3] => { results := [.lit (.bool false)], args := [d1, d2, d3] }
  | _ => none }
def RefBackWrongFalsely : Prop := refBackRow.holds Try.pinned (OpenSpec.ofChange refBackWrong)

/-- 'accordionlaw23.TextReads': WHATEVER THE INPUT: true; the input reads as it did. -/
def textReadsSpec : ChangeSpec := { name := "textReads", fn := fun _ => fun
  | [d1, d2] => { results := [.lit (.bool true)], args := [d1, d2] }
  | _ => none }
def textReadsRow : OpenClaim := { program := "ytdoagpophikgjaa", sum := "282ac894a4e7147a3147462269d0d7d9512815cbc36312933f42235057a6fed8", func := "accordion/accordionlaw23.TextReads", spec := "textReads", inPlace := ["internal/bytealg.IndexByte"], unfollowed := true, recurses := true, apart := false }
def TextReadsSaid : Prop := textReadsRow.holds Try.pinned (OpenSpec.ofChange textReadsSpec)

/-- ITS FALSE NEIGHBOUR: 'it returns false'. Refute it at one input. -/
def textReadsWrong : ChangeSpec := { name := "textReads", fn := fun _ => fun
  | [d1, d2] => { results := [.lit (.bool false)], args := [d1, d2] }
  | _ => none }
def TextReadsWrongFalsely : Prop := textReadsRow.holds Try.pinned (OpenSpec.ofChange textReadsWrong)

/-- 'accordionlaw23.TextOwn': WHATEVER THE INPUT: true; the input reads as it did. -/
def textOwnSpec : ChangeSpec := { name := "textOwn", fn := fun _ => fun
  | [d1, d2] => { results := [.lit (.bool true)], args := [d1, d2] }
  | _ => none }
def textOwnRow : OpenClaim := { program := "ytdoagpophikgjaa", sum := "282ac894a4e7147a3147462269d0d7d9512815cbc36312933f42235057a6fed8", func := "accordion/accordionlaw23.TextOwn", spec := "textOwn", inPlace := ["internal/bytealg.IndexByte"], unfollowed := true, recurses := true, apart := false }
def TextOwnSaid : Prop := textOwnRow.holds Try.pinned (OpenSpec.ofChange textOwnSpec)

/-- ITS FALSE NEIGHBOUR: 'it returns false'. Refute it at one input. -/
def textOwnWrong : ChangeSpec := { name := "textOwn", fn := fun _ => fun
  | [d1, d2] => { results := [.lit (.bool false)], args := [d1, d2] }
  | _ => none }
def TextOwnWrongFalsely : Prop := textOwnRow.holds Try.pinned (OpenSpec.ofChange textOwnWrong)

/-- 'accordionlaw23.TextKeys': WHATEVER THE INPUT: true; the input reads as it did. -/
def textKeysSpec : ChangeSpec := { name := "textKeys", fn := fun _ => fun
  | [d1, d2, d3] => { results := [.lit (.bool true)], args := [d1, d2, d3] }
  | _ => none }
def textKeysRow : OpenClaim := { program := "ytdoagpophikgjaa", sum := "282ac894a4e7147a3147462269d0d7d9512815cbc36312933f42235057a6fed8", func := "accordion/accordionlaw23.TextKeys", spec := "textKeys", inPlace := ["internal/bytealg.IndexByte", "internal/bytealg.IndexByteString"], unfollowed := true, recurses := true, apart := false }
def TextKeysSaid : Prop := textKeysRow.holds Try.pinned (OpenSpec.ofChange textKeysSpec)

/-- ITS FALSE NEIGHBOUR: 'it returns false'. Refute it at one input. -/
def textKeysWrong : ChangeSpec := { name := "textKeys", fn := fun _ => fun
  | [d1, d2, d3] => { results := [.lit (.bool false)], args := [d1, d2, d3] }
  | _ => none }
def TextKeysWrongFalsely : Prop := textKeysRow.holds Try.pinned (OpenSpec.ofChange textKeysWrong)

/-- 'accordionlaw23.TextLengths': WHATEVER THE INPUT: true; the input reads as it did. -/
def textLengthsSpec : ChangeSpec := { name := "textLengths", fn := fun _ => fun
  | [d1, d2, d3] => { results := [.lit (.bool true)], args := [d1, d2, d3] }
  | _ => none }
def textLengthsRow : OpenClaim := { program := "ytdoagpophikgjaa", sum := "282ac894a4e7147a3147462269d0d7d9512815cbc36312933f42235057a6fed8", func := "accordion/accordionlaw23.TextLengths", spec := "textLengths", inPlace := ["internal/bytealg.IndexByte"], unfollowed := true, recurses := true, apart := false }
def TextLengthsSaid : Prop := textLengthsRow.holds Try.pinned (OpenSpec.ofChange textLengthsSpec)

/-- ITS FALSE NEIGHBOUR: 'it returns false'. Refute it at one input. -/
def textLengthsWrong : ChangeSpec := { name := "textLengths", fn := fun _ => fun
  | [d1, d2, d3] => { results := [.lit (.bool false)], args := [d1, d2, d3] }
  | _ => none }
def TextLengthsWrongFalsely : Prop := textLengthsRow.holds Try.pinned (OpenSpec.ofChange textLengthsWrong)

/-- 'accordionlaw23.TextKnown': WHATEVER THE INPUT: true; the input reads as it did. -/
def textKnownSpec : ChangeSpec := { name := "textKnown", fn := fun _ => fun
  | [] => { results := [.lit (.bool true)], args := [] }
  | _ => none }
def textKnownRow : OpenClaim := { program := "ytdoagpophikgjaa", sum := "282ac894a4e7147a3147462269d0d7d9512815cbc36312933f42235057a6fed8", func := "accordion/accordionlaw23.TextKnown", spec := "textKnown", inPlace := ["internal/bytealg.IndexByte"], unfollowed := true, recurses := true, apart := false }
def TextKnownSaid : Prop := textKnownRow.holds Try.pinned (OpenSpec.ofChange textKnownSpec)

/-- ITS FALSE NEIGHBOUR: 'it returns false'. Refute it at one input. -/
def textKnownWrong : ChangeSpec := { name := "textKnown", fn := fun _ => fun
  | [] => { results := [.lit (.bool false)], args := [] }
  | _ => none }
def TextKnownWrongFalsely : Prop := textKnownRow.holds Try.pinned (OpenSpec.ofChange textKnownWrong)

/- THE SECOND FORM. 'bulk': how many values and letters a reading holds, each counted each time it is reached (what is shared counts as often as it is met; a slice's spare places count too). A statement '..UptoSaid' is the law's where the arguments, and the package variables that the reading takes, are together of bulk at most 1048576: NARROWER than '..Said'. Prove '..Said' where nothing that the law and all that it calls make is longer than what came in: it says more and counts as full. Else prove '..UptoSaid'. A law counts once. -/
mutual
def uptoBulk {H : Type} : DataW H → Nat
  | .lit (.string bytes) => bytes.length + 1
  | .lit _ => 1
  | .nil => 1
  | .ptr d => uptoBulk d + 1
  | .slice elems spare => uptoBulkAll elems + uptoBulkAll spare + 1
  | .agg parts => uptoBulkAll parts + 1
  | .iface _ d => uptoBulk d + 1
  | .map entries => uptoBulkEntries entries + 1
  | .held _ => 1
def uptoBulkAll {H : Type} : List (DataW H) → Nat
  | [] => 0
  | d :: r => uptoBulk d + uptoBulkAll r
def uptoBulkEntries {H : Type} : List (Lit × DataW H) → Nat
  | [] => 0
  | x :: r => uptoBulkEntry x + uptoBulkEntries r
def uptoBulkEntry {H : Type} : Lit × DataW H → Nat
  | (.string bytes, d) => bytes.length + uptoBulk d + 1
  | (_, d) => uptoBulk d + 1
 end
def uptoSmall : (H : Type) → List (DataW H) → Bool := fun _ ds => decide (uptoBulkAll ds ≤ 1048576)
def OpenSpec.upto (s : _root_.Go.ChangeSpec) : _root_.Go.OpenSpec := { _root_.Go.OpenSpec.ofChange s with cond := some uptoSmall }

/-- 'accordionlaw21.RefRoots', WHERE WHAT IT READS IS OF BULK AT MOST 1048576: true; the input reads as it did. -/
def refRootsUptoRow : OpenClaim := { program := "ytdoagpophikgjaa", sum := "282ac894a4e7147a3147462269d0d7d9512815cbc36312933f42235057a6fed8", func := "accordion/accordionlaw21.RefRoots", spec := "refRoots", unfollowed := true, recurses := true, apart := false, narrowed := true }
def RefRootsUptoSaid : Prop := refRootsUptoRow.holds Try.pinned (OpenSpec.upto refRootsSpec)

/-- 'accordionlaw21.RefEnds', WHERE WHAT IT READS IS OF BULK AT MOST 1048576: true; the input reads as it did. -/
def refEndsUptoRow : OpenClaim := { program := "ytdoagpophikgjaa", sum := "282ac894a4e7147a3147462269d0d7d9512815cbc36312933f42235057a6fed8", func := "accordion/accordionlaw21.RefEnds", spec := "refEnds", unfollowed := true, recurses := true, apart := false, narrowed := true }
def RefEndsUptoSaid : Prop := refEndsUptoRow.holds Try.pinned (OpenSpec.upto refEndsSpec)

/-- 'accordionlaw21.RefTells', WHERE WHAT IT READS IS OF BULK AT MOST 1048576: true; the input reads as it did. -/
def refTellsUptoRow : OpenClaim := { program := "ytdoagpophikgjaa", sum := "282ac894a4e7147a3147462269d0d7d9512815cbc36312933f42235057a6fed8", func := "accordion/accordionlaw21.RefTells", spec := "refTells", unfollowed := true, recurses := true, apart := false, narrowed := true }
def RefTellsUptoSaid : Prop := refTellsUptoRow.holds Try.pinned (OpenSpec.upto refTellsSpec)

/-- 'accordionlaw21.RefSames', WHERE WHAT IT READS IS OF BULK AT MOST 1048576: true; the input reads as it did. -/
def refSamesUptoRow : OpenClaim := { program := "ytdoagpophikgjaa", sum := "282ac894a4e7147a3147462269d0d7d9512815cbc36312933f42235057a6fed8", func := "accordion/accordionlaw21.RefSames", spec := "refSames", unfollowed := true, recurses := true, apart := false, narrowed := true }
def RefSamesUptoSaid : Prop := refSamesUptoRow.holds Try.pinned (OpenSpec.upto refSamesSpec)

/-- 'accordionlaw21.RefKnown', WHERE WHAT IT READS IS OF BULK AT MOST 1048576: true; the input reads as it did. -/
def refKnownUptoRow : OpenClaim := { program := "ytdoagpophikgjaa", sum := "282ac894a4e7147a3147462269d0d7d9512815cbc36312933f42235057a6fed8", func := "accordion/accordionlaw21.RefKnown", spec := "refKnown", unfollowed := true, recurses := true, apart := false, narrowed := true }
def RefKnownUptoSaid : Prop := refKnownUptoRow.holds Try.pinned (OpenSpec.upto refKnownSpec)

/-- 'accordionlaw21.RefBack', WHERE WHAT IT READS IS OF BULK AT MOST 1048576: true; the input reads as it did. -/
def refBackUptoRow : OpenClaim := { program := "ytdoagpophikgjaa", sum := "282ac894a4e7147a3147462269d0d7d9512815cbc36312933f42235057a6fed8", func := "accordion/accordionlaw21.RefBack", spec := "refBack", unfollowed := true, recurses := true, apart := false, narrowed := true }
def RefBackUptoSaid : Prop := refBackUptoRow.holds Try.pinned (OpenSpec.upto refBackSpec)

/-- 'accordionlaw23.TextReads', WHERE WHAT IT READS IS OF BULK AT MOST 1048576: true; the input reads as it did. -/
def textReadsUptoRow : OpenClaim := { program := "ytdoagpophikgjaa", sum := "282ac894a4e7147a3147462269d0d7d9512815cbc36312933f42235057a6fed8", func := "accordion/accordionlaw23.TextReads", spec := "textReads", inPlace := ["internal/bytealg.IndexByte"], unfollowed := true, recurses := true, apart := false, narrowed := true }
def TextReadsUptoSaid : Prop := textReadsUptoRow.holds Try.pinned (OpenSpec.upto textReadsSpec)

/-- 'accordionlaw23.TextOwn', WHERE WHAT IT READS IS OF BULK AT MOST 1048576: true; the input reads as it did. -/
def textOwnUptoRow : OpenClaim := { program := "ytdoagpophikgjaa", sum := "282ac894a4e7147a3147462269d0d7d9512815cbc36312933f42235057a6fed8", func := "accordion/accordionlaw23.TextOwn", spec := "textOwn", inPlace := ["internal/bytealg.IndexByte"], unfollowed := true, recurses := true, apart := false, narrowed := true }
def TextOwnUptoSaid : Prop := textOwnUptoRow.holds Try.pinned (OpenSpec.upto textOwnSpec)

/-- 'accordionlaw23.TextKeys', WHERE WHAT IT READS IS OF BULK AT MOST 1048576: true; the input reads as it did. -/
def textKeysUptoRow : OpenClaim := { program := "ytdoagpophikgjaa", sum := "282ac894a4e7147a3147462269d0d7d9512815cbc36312933f42235057a6fed8", func := "accordion/accordionlaw23.TextKeys", spec := "textKeys", inPlace := ["internal/bytealg.IndexByte", "internal/bytealg.IndexByteString"], unfollowed := true, recurses := true, apart := false, narrowed := true }
def TextKeysUptoSaid : Prop := textKeysUptoRow.holds Try.pinned (OpenSpec.upto textKeysSpec)

/-- 'accordionlaw23.TextLengths', WHERE WHAT IT READS IS OF BULK AT MOST 1048576: true; the input reads as it did. -/
def textLengthsUptoRow : OpenClaim := { program := "ytdoagpophikgjaa", sum := "282ac894a4e7147a3147462269d0d7d9512815cbc36312933f42235057a6fed8", func := "accordion/accordionlaw23.TextLengths", spec := "textLengths", inPlace := ["internal/bytealg.IndexByte"], unfollowed := true, recurses := true, apart := false, narrowed := true }
def TextLengthsUptoSaid : Prop := textLengthsUptoRow.holds Try.pinned (OpenSpec.upto textLengthsSpec)

/-- 'accordionlaw23.TextKnown', WHERE WHAT IT READS IS OF BULK AT MOST 1048576: true; the input reads as it did. -/
def textKnownUptoRow : OpenClaim := { program := "ytdoagpophikgjaa", sum := "282ac894a4e7147a3147462269d0d7d9512815cbc36312933f42235057a6fed8", func := "accordion/accordionlaw23.TextKnown", spec := "textKnown", inPlace := ["internal/bytealg.IndexByte"], unfollowed := true, recurses := true, apart := false, narrowed := true }
def TextKnownUptoSaid : Prop := textKnownUptoRow.holds Try.pinned (OpenSpec.upto textKnownSpec)

end Rows
end Go.Proofs.Ytdoagpophikgjaa
