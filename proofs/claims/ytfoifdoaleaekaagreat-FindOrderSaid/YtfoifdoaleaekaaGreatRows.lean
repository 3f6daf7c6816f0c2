/-
  NARROWER THAN 'FOR EVERY INPUT', by the rows' own cells (each row's printed sentence says how): RefWhole: loops · ListHolds: loops.
  DERIVED. THE GIVEN ROWS OF THIS SEAT. 5 by the template 'for every input the law returns true; each argument reads behind the call as it read before'; 0 by the template 'total and deterministic' (their statements: YtfoifdoaleaekaaGreatTotals.lean).
  GIVEN WITH THE SEED: the statements are not yours to turn. If you find one false, say at which input.
  Laid BY PROGRAM, IN A SANDBOX (cutbox-rows.mjs): the forced cells as the released guide's own fill.sh prints them over the translation 40c66ab16ad53ae0… (all of the seat's roots in one cut). By AI agents, Wed Nov 11 2026. No macro, syntax, notation, axiom, sorry.
-/
import Derived.Test.YtfoifdoaleaekaaGreatChecked
import GoSem.Claim
import GoSem.ClaimJoined
import GoSem.ClaimMapViews
import Derived.JoinedTies
import Derived.KernelRfl
namespace Go.Proofs.YtfoifdoaleaekaaGreat
/- THE CELL 'sum', in the pinned program and in every row, IS THE sha256 OF THE DUMP (.gsa) THAT YtfoifdoaleaekaaGreatProg.lean LOADS. Nothing in Lean hashes anything: it is a label: what it is worth is what the hold of that sum in a sandbox is worth. -/
noncomputable def Tryz.pinned : Pinned := { name := "ytfoifdoaleaekaagreat", sum := "40c66ab16ad53ae0acea6f1971af6c5e29941d229784f8e6c4f145f2762eb6db", checked := Tryz.checked }
namespace Rows
def none {H : Type} : Left H := { results := [], args := [] }

/-- 'accordionlaw21.RefWhole': WHATEVER THE INPUT: true; the input reads as it did. -/
def refWholeSpec : ChangeSpec := { name := "refWhole", fn := fun _ => fun
  | [d1, d2, d3] => { results := [.lit (.bool true)], args := [d1, d2, d3] }
  | _ => none }
def refWholeRow : OpenClaim := { program := "ytfoifdoaleaekaagreat", sum := "40c66ab16ad53ae0acea6f1971af6c5e29941d229784f8e6c4f145f2762eb6db", func := "accordion/accordionlaw21.RefWhole", spec := "refWhole", inPlace := ["internal/bytealg.IndexByteString", "internal/bytealg.abigen_runtime_cmpstring", "internal/abi.NoEscape"], unfollowed := true, recurses := true, loops := true, plainKeys := false, apart := false }
def RefWholeSaid : Prop := refWholeRow.holds Tryz.pinned (OpenSpec.ofChange refWholeSpec)

/-- ITS FALSE NEIGHBOUR: 'it returns false'. Refute it at one input. -/
def refWholeWrong : ChangeSpec := { name := "refWhole", fn := fun _ => fun
  | [d1, d2, d3] => { results := [.lit (.bool false)], args := [d1, d2, d3] }
  | _ => none }
def RefWholeWrongFalsely : Prop := refWholeRow.holds Tryz.pinned (OpenSpec.ofChange refWholeWrong)

/-- 'accordionlaw24.ListHolds': WHATEVER THE INPUT: true; the input reads as it did. -/
def listHoldsSpec : ChangeSpec := { name := "listHolds", fn := fun _ => fun
  | [d1, d2, d3] => { results := [.lit (.bool true)], args := [d1, d2, d3] }
  | _ => none }
def listHoldsRow : OpenClaim := { program := "ytfoifdoaleaekaagreat", sum := "40c66ab16ad53ae0acea6f1971af6c5e29941d229784f8e6c4f145f2762eb6db", func := "accordion/accordionlaw24.ListHolds", spec := "listHolds", inPlace := ["internal/bytealg.IndexByteString", "internal/bytealg.abigen_runtime_cmpstring", "internal/abi.NoEscape"], unfollowed := true, recurses := true, loops := true, plainKeys := false, apart := false }
def ListHoldsSaid : Prop := listHoldsRow.holds Tryz.pinned (OpenSpec.ofChange listHoldsSpec)

/-- ITS FALSE NEIGHBOUR: 'it returns false'. Refute it at one input. -/
def listHoldsWrong : ChangeSpec := { name := "listHolds", fn := fun _ => fun
  | [d1, d2, d3] => { results := [.lit (.bool false)], args := [d1, d2, d3] }
  | _ => none }
def ListHoldsWrongFalsely : Prop := listHoldsRow.holds Tryz.pinned (OpenSpec.ofChange listHoldsWrong)

/-- 'accordionlaw24.ListNumbers': WHATEVER THE INPUT: true; the input reads as it did. -/
def listNumbersSpec : ChangeSpec := { name := "listNumbers", fn := fun _ => fun
  | [d1, d2, d3] => { results := [.lit (.bool true)], args := [d1, d2, d3] }
  | _ => none }
def listNumbersRow : OpenClaim := { program := "ytfoifdoaleaekaagreat", sum := "40c66ab16ad53ae0acea6f1971af6c5e29941d229784f8e6c4f145f2762eb6db", func := "accordion/accordionlaw24.ListNumbers", spec := "listNumbers", inPlace := ["internal/bytealg.IndexByteString", "internal/bytealg.abigen_runtime_cmpstring", "internal/abi.NoEscape"], unfollowed := true, recurses := true, plainKeys := false, apart := false }
def ListNumbersSaid : Prop := listNumbersRow.holds Tryz.pinned (OpenSpec.ofChange listNumbersSpec)

/-- ITS FALSE NEIGHBOUR: 'it returns false'. Refute it at one input. -/
def listNumbersWrong : ChangeSpec := { name := "listNumbers", fn := fun _ => fun
  | [d1, d2, d3] => { results := [.lit (.bool false)], args := [d1, d2, d3] }
  | _ => none }
def ListNumbersWrongFalsely : Prop := listNumbersRow.holds Tryz.pinned (OpenSpec.ofChange listNumbersWrong)

/-- 'accordionlaw25.FindMap': WHATEVER THE INPUT: true; the input reads as it did. -/
def findMapSpec : ChangeSpec := { name := "findMap", fn := fun _ => fun
  | [d1, d2, d3] => { results := [.lit (.bool true)], args := [d1, d2, d3] }
  | _ => none }
def findMapRow : OpenClaim := { program := "ytfoifdoaleaekaagreat", sum := "40c66ab16ad53ae0acea6f1971af6c5e29941d229784f8e6c4f145f2762eb6db", func := "accordion/accordionlaw25.FindMap", spec := "findMap", inPlace := ["internal/bytealg.IndexByte", "internal/bytealg.IndexByteString", "internal/bytealg.abigen_runtime_cmpstring", "internal/abi.NoEscape"], unfollowed := true, recurses := true, plainKeys := false, apart := false }
def FindMapSaid : Prop := findMapRow.holds Tryz.pinned (OpenSpec.ofChange findMapSpec)

/-- ITS FALSE NEIGHBOUR: 'it returns false'. Refute it at one input. -/
def findMapWrong : ChangeSpec := { name := "findMap", fn := fun _ => fun
  | [d1, d2, d3] => { results := [.lit (.bool false)], args := [d1, d2, d3] }
  | _ => none }
def FindMapWrongFalsely : Prop := findMapRow.holds Tryz.pinned (OpenSpec.ofChange findMapWrong)

/-- 'accordionlaw25.FindOrder': WHATEVER THE INPUT: true; the input reads as it did. -/
def findOrderSpec : ChangeSpec := { name := "findOrder", fn := fun _ => fun
  | [d1, d2] => { results := [.lit (.bool true)], args := [d1, d2] }
  | _ => none }
def findOrderRow : OpenClaim := { program := "ytfoifdoaleaekaagreat", sum := "40c66ab16ad53ae0acea6f1971af6c5e29941d229784f8e6c4f145f2762eb6db", func := "accordion/accordionlaw25.FindOrder", spec := "findOrder", inPlace := ["internal/bytealg.IndexByteString", "internal/bytealg.abigen_runtime_cmpstring", "internal/abi.NoEscape", "internal/bytealg.IndexByte"], unfollowed := true, recurses := true, plainKeys := false, apart := false }
def FindOrderSaid : Prop := findOrderRow.holds Tryz.pinned (OpenSpec.ofChange findOrderSpec)

/-- ITS FALSE NEIGHBOUR: 'it returns false'. Refute it at one input. -/
def findOrderWrong : ChangeSpec := { name := "findOrder", fn := fun _ => fun
  | [d1, d2] => { results := [.lit (.bool false)], args := [d1, d2] }
  | _ => none }
def FindOrderWrongFalsely : Prop := findOrderRow.holds Tryz.pinned (OpenSpec.ofChange findOrderWrong)

/- THE SECOND FORM. 'bulk': how many values and letters a reading holds, each counted each time it is reached (what is shared counts as often as it is met; a slice's spare places count too). A statement '..UptoSaid' is the law's where the arguments, and the package variables that the reading takes, are together of bulk at most 1048576: NARROWER than '..Said'. Prove '..Said' where nothing that the law and all that it calls make is longer than what came in: it says more and counts as full. Else prove '..UptoSaid'. A law counts once. -/
mutual
def uptoBulk {H : Type} : DataW H → Nat
  | .lit (.string bytes) => bytes.length + 1
  | .lit _ => 1
  | .nil => 1
  | .ptr d => uptoBulk d + 1
  | .slice elems spare => uptoBulkAll elems + uptoBulkAll spare + 1
  | .agg parts => uptoBulkAll parts + 1
  | .iface _ d => uptoBulk d + 1
  | .map entries => uptoBulkEntries entries + 1
  | .held _ => 1
def uptoBulkAll {H : Type} : List (DataW H) → Nat
  | [] => 0
  | d :: r => uptoBulk d + uptoBulkAll r
def uptoBulkEntries {H : Type} : List (Lit × DataW H) → Nat
  | [] => 0
  | x :: r => uptoBulkEntry x + uptoBulkEntries r
def uptoBulkEntry {H : Type} : Lit × DataW H → Nat
  | (.string bytes, d) => bytes.length + uptoBulk d + 1
  | (_, d) => uptoBulk d + 1
 end
def uptoSmall : (H : Type) → List (DataW H) → Bool := fun _ ds => decide (uptoBulkAll ds ≤ 1048576)
def OpenSpec.upto (s : _root_.Go.ChangeSpec) : _root_.Go.OpenSpec := { _root_.Go.OpenSpec.ofChange s with cond := some uptoSmall }

/-- 'accordionlaw21.RefWhole', WHERE WHAT IT READS IS OF BULK AT MOST 1048576: true; the input reads as it did. -/
def refWholeUptoRow : OpenClaim := { program := "ytfoifdoaleaekaagreat", sum := "40c66ab16ad53ae0acea6f1971af6c5e29941d229784f8e6c4f145f2762eb6db", func := "accordion/accordionlaw21.RefWhole", spec := "refWhole", inPlace := ["internal/bytealg.IndexByteString", "internal/bytealg.abigen_runtime_cmpstring", "internal/abi.NoEscape"], unfollowed := true, recurses := true, loops := true, plainKeys := false, apart := false, narrowed := true }
def RefWholeUptoSaid : Prop := refWholeUptoRow.holds Tryz.pinned (OpenSpec.upto refWholeSpec)

/-- 'accordionlaw24.ListHolds', WHERE WHAT IT READS IS OF BULK AT MOST 1048576: true; the input reads as it did. -/
def listHoldsUptoRow : OpenClaim := { program := "ytfoifdoaleaekaagreat", sum := "40c66ab16ad53ae0acea6f1971af6c5e29941d229784f8e6c4f145f2762eb6db", func := "accordion/accordionlaw24.ListHolds", spec := "listHolds", inPlace := ["internal/bytealg.IndexByteString", "internal/bytealg.abigen_runtime_cmpstring", "internal/abi.NoEscape"], unfollowed := true, recurses := true, loops := true, plainKeys := false, apart := false, narrowed := true }
def ListHoldsUptoSaid : Prop := listHoldsUptoRow.holds Tryz.pinned (OpenSpec.upto listHoldsSpec)

/-- 'accordionlaw24.ListNumbers', WHERE WHAT IT READS IS OF BULK AT MOST 1048576: true; the input reads as it did. -/
def listNumbersUptoRow : OpenClaim := { program := "ytfoifdoaleaekaagreat", sum := "40c66ab16ad53ae0acea6f1971af6c5e29941d229784f8e6c4f145f2762eb6db", func := "accordion/accordionlaw24.ListNumbers", spec := "listNumbers", inPlace := ["internal/bytealg.IndexByteString", "internal/bytealg.abigen_runtime_cmpstring", "internal/abi.NoEscape"], unfollowed := true, recurses := true, plainKeys := false, apart := false, narrowed := true }
def ListNumbersUptoSaid : Prop := listNumbersUptoRow.holds Tryz.pinned (OpenSpec.upto listNumbersSpec)

/-- 'accordionlaw25.FindMap', WHERE WHAT IT READS IS OF BULK AT MOST 1048576: true; the input reads as it did. -/
def findMapUptoRow : OpenClaim := { program := "ytfoifdoaleaekaagreat", sum := "40c66ab16ad53ae0acea6f1971af6c5e29941d229784f8e6c4f145f2762eb6db", func := "accordion/accordionlaw25.FindMap", spec := "findMap", inPlace := ["internal/bytealg.IndexByte", "internal/bytealg.IndexByteString", "internal/bytealg.abigen_runtime_cmpstring", "internal/abi.NoEscape"], unfollowed := true, recurses := true, plainKeys := false, apart := false, narrowed := true }
def FindMapUptoSaid : Prop := findMapUptoRow.holds Tryz.pinned (OpenSpec.upto findMapSpec)

/-- 'accordionlaw25.FindOrder', WHERE WHAT IT READS IS OF BULK AT MOST 1048576: true; the input reads as it did. -/
def findOrderUptoRow : OpenClaim := { program := "ytfoifdoaleaekaagreat", sum := "40c66ab16ad53ae0acea6f1971af6c5e29941d229784f8e6c4f145f2762eb6db", func := "accordion/accordionlaw25.FindOrder", spec := "findOrder", inPlace := ["internal/bytealg.IndexByteString", "internal/bytealg.abigen_runtime_cmpstring", "internal/abi.NoEscape", "internal/bytealg.IndexByte"], unfollowed := true, recurses := true, plainKeys := false, apart := false, narrowed := true }
def FindOrderUptoSaid : Prop := findOrderUptoRow.holds Tryz.pinned (OpenSpec.upto findOrderSpec)

end Rows
end Go.Proofs.YtfoifdoaleaekaaGreat
