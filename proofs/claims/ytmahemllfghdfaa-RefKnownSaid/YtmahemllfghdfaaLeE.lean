/-
  Package le: appending and setting integers.
-/
import Derived.Test.YtmahemllfghdfaaLeD
import Derived.Test.YtmahemllfghdfaaZeros
namespace Go.Proofs.Ytmahemllfghdfaa
open Go.RowKit Go.Acc

/-- A stretch of an owned row of bytes is replaced. -/
theorem own_seg {w : World} {B g n c : Nat} {l : List UInt8} (h : OwnB w B (some ⟨g, 0, none⟩) n c l) : ∃ cur, Blk w g 5 cur ∧ n ≤ cur.size ∧
    (∀ (w' : World) (cur' : Array Value) (off k : Nat) (m : List UInt8), Blk w' g 5 cur' → Seg cur off (m.flatMap bc) k cur' → m.length = k → off + k ≤ n → OwnB w' B (some ⟨g, 0, none⟩) n c (l.take off ++ m ++ l.drop (off + k))) := by
  obtain ⟨hl, h1, h2⟩ := h
  rcases h2 with ⟨hv, _⟩ | ⟨g', cap, cur, hv, hb, hg, hnc, hcm, hcs, htake⟩
  · cases hv
  · injection hv with e1 _ e3
    injection e1 with e1
    injection e1 with e1
    subst e1 e3
    simp only [Nat.mul_one] at hcs htake h1
    refine ⟨cur, hg, by omega, ?_⟩
    intro w' cur' off k m hB hS hm hk
    refine ⟨by simp; omega, ?_, .inr ⟨g, c, cur', rfl, hb, hB, hnc, hcm, by rw [hS.1, Nat.mul_one]; exact hcs, ?_⟩⟩
    · rw [fm_length bc_len]; simp; omega
    · rw [Nat.mul_one, hS.take (by rw [fm_length bc_len]; omega) hk (by omega), htake, List.flatMap_append, List.flatMap_append, fm_take bc_len, fm_drop bc_len, Nat.mul_one, Nat.mul_one]

def putE (x : Int) (b : Bool) : Int := if isW x = true then (if b = true then 0 else 10) else 2
def putB (l : List UInt8) (x : Int) (u : Nat) (b : Bool) : List UInt8 := if isW x = true ∧ b = true then l ++ leBytes x.toNat u else []
def PutW (w : World) (m : List UInt8) (er : Int) (e : Ending) (w' : World) : Prop :=
  ∃ A n c, e = .returned (.tuple #[.slice A n c, .int .i64 er]) ∧ OwnB w' w.heap.size A n c m ∧ Below w.heap.size w w'
theorem putw_lift {w W : World} {m : List UInt8} {er : Int} {e : Ending} {w' : World} (hB : Below w.heap.size w W) (h : PutW W m er e w') : PutW w m er e w' := by
  obtain ⟨A, n, c, he, hO, hB'⟩ := h
  exact ⟨A, n, c, he, hO.rebase hB.size, pure_trans hB hB'⟩
theorem call_ (F : Nat) (h : ∀ (args : Array Value) (w : World), (callFunc F args).run Try.prog w = .ok (.enter F args) w) : ∀ (args : Array Value) (w : World), (callFunc F args).run Try.prog w = .ok (.enter F args) w := h
theorem wrapu (m : Int) : IntKind.u64.wrap m = (((m % 18446744073709551616).toNat : Nat) : Int) := by
  show m % 18446744073709551616 = _
  omega
theorem blk_new2 (w : World) (o : Obj) (t : TypeId) (cs : Array Value) : Blk ((w.alloc o).alloc (.cells cs t)) (w.heap.size + 1) t cs := by
  have h := Blk.new (w.alloc o) t cs
  have e : (w.alloc o).heap.size = w.heap.size + 1 := by simp
  rw [e] at h
  exact h
end Go.Proofs.Ytmahemllfghdfaa
