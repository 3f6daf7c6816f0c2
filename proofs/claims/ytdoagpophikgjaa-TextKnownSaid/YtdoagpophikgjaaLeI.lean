/-
  Package le: the examples of the chapter.
-/
import Derived.Test.YtdoagpophikgjaaLeH
namespace Go.Proofs.Ytdoagpophikgjaa
open Go.RowKit Go.Acc

theorem isb_lit (w : World) (vs : Array Value) (l : List UInt8) (n : Nat) (hn : l.length = n) (h : vs.toList = l.flatMap bc) : IsB (w.alloc (.cells vs 5)) (some ⟨w.heap.size, 0, none⟩) n l :=
  ⟨hn, fun j u hj => ⟨_, _, rfl, by rw [(Blk.new w 5 vs).cell, Nat.zero_add, ← Array.getElem?_toList, h]; exact hj⟩⟩

theorem isb_lit2 (w : World) (o : Obj) (vs : Array Value) (l : List UInt8) (n : Nat) (hn : l.length = n) (h : vs.toList = l.flatMap bc) : IsB ((w.alloc o).alloc (.cells vs 5)) (some ⟨w.heap.size + 1, 0, none⟩) n l := by
  have h := isb_lit (w.alloc o) vs l n hn h
  have e : (w.alloc o).heap.size = w.heap.size + 1 := by simp
  rw [e] at h
  exact h
theorem isb_lit3 (w : World) (o o2 : Obj) (vs : Array Value) (l : List UInt8) (n : Nat) (hn : l.length = n) (h : vs.toList = l.flatMap bc) : IsB (((w.alloc o).alloc o2).alloc (.cells vs 5)) (some ⟨w.heap.size + 1 + 1, 0, none⟩) n l := by
  have h := isb_lit2 (w.alloc o) o2 vs l n hn h
  have e : (w.alloc o).heap.size = w.heap.size + 1 := by simp
  rw [e] at h
  exact h
theorem put_is (A : Option Addr) (n c : Nat) (u x : Int) (U : Nat) (l m : List UInt8) (er : Int) (w : World) (h : IsB w A n l) (hc : n ≤ c) (hn : n ≤ 1099511627776) (hU : u = U) (hu : (U : Int) < 18446744073709551616)
    (h1 : putB l x U (fitsU x.toNat U) = m) (h2 : putE x (fitsU x.toNat U) = er) : Calls Try.prog 50 #[.slice A n c, .int .i64 x, .int .u64 u] w (PutW w m er) := by
  subst h1 h2 hU
  exact put_spec A n c U x l w h hc hn hu
theorem set_is (A : Option Addr) (n c : Nat) (u a x : Int) (U : Nat) (l m : List UInt8) (er : Int) (w : World) (h : IsB w A n l) (hn : n ≤ 1099511627776) (hU : u = U) (hu : (U : Int) < 18446744073709551616)
    (h1 : setB l a x U (fitsU x.toNat U) = m) (h2 : setE n a x (fitsU x.toNat U) = er) : Calls Try.prog 34 #[.slice A n c, .int .i64 a, .int .i64 x, .int .u64 u] w (PutW w m er) := by
  subst h1 h2 hU
  exact set_spec A n c U a x l w h hn hu

end Go.Proofs.Ytdoagpophikgjaa
