/-
  Package ref: the examples of the chapter.
-/
import Derived.Test.YtogaifggpfipaaaRefD
namespace Go.Proofs.Ytogaifggpfipaaa
open Go.RowKit Go.Acc
/-- The bytes of a literal. -/
def unb (vs : Array Value) : List UInt8 := vs.toList.map fun v => match v with | .int _ z => UInt8.ofNat z.toNat | _ => 0
theorem isb_vs (w : World) (vs : Array Value) (n : Nat) (hn : vs.size = n) (h : vs.toList = (unb vs).flatMap bc) : IsB (w.alloc (.cells vs 5)) (some ⟨w.heap.size, 0, none⟩) n (unb vs) :=
  ⟨by rw [← hn]; simp [unb], fun j u hj => ⟨_, _, rfl, by rw [(Blk.new w 5 vs).cell, Nat.zero_add, ← Array.getElem?_toList, h]; exact hj⟩⟩
end Go.Proofs.Ytogaifggpfipaaa
