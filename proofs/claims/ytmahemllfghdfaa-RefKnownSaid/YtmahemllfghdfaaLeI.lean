/-
  Package le: the examples of the chapter.
-/
import Derived.Test.YtmahemllfghdfaaLeH
namespace Go.Proofs.Ytmahemllfghdfaa
open Go.RowKit Go.Acc

theorem isb_lit (w : World) (vs : Array Value) (l : List UInt8) (n : Nat) (hn : l.length = n) (h : vs.toList = l.flatMap bc) : IsB (w.alloc (.cells vs 5)) (some ⟨w.heap.size, 0, none⟩) n l :=
  ⟨hn, fun j u hj => ⟨_, _, rfl, by rw [(Blk.new w 5 vs).cell, Nat.zero_add, ← Array.getElem?_toList, h]; exact hj⟩⟩

theorem isb_lit2 (w : World) (o : Obj) (vs : Array Value) (l : List UInt8) (n : Nat) (hn : l.length = n) (h : vs.toList = l.flatMap bc) : IsB ((w.alloc o).alloc (.cells vs 5)) (some ⟨w.heap.size + 1, 0, none⟩) n l := by
  have h := isb_lit (w.alloc o) vs l n hn h
  have e : (w.alloc o).heap.size = w.heap.size + 1 := by simp
  rw [e] at h
  exact h
theorem isb_lit3 (w : World) (o o2 : Obj) (vs : Array Value) (l : List UInt8) (n : Nat) (hn : l.length = n) (h : vs.toList = l.flatMap bc) : IsB (((w.alloc o).alloc o2).alloc (.cells vs 5)) (some ⟨w.heap.size + 1 + 1, 0, none⟩) n l := by
  have h := isb_lit2 (w.alloc o) o2 vs l n hn h
  have e : (w.alloc o).heap.size = w.heap.size + 1 := by simp
  rw [e] at h
  exact h
end Go.Proofs.Ytmahemllfghdfaa
