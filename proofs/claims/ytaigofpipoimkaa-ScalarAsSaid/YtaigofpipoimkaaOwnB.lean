/-
  A byte stored into a row of the call's own.
-/
import Derived.Test.YtaigofpipoimkaaMake
import Derived.Test.YtaigofpipoimkaaLeE
import Derived.Test.YtaigofpipoimkaaRefE
namespace Go.Proofs.Ytaigofpipoimkaa
open Go.RowKit Go.Acc
theorem own_setB {w : World} {B g n c i : Nat} {l : List UInt8} (h : OwnB w B (some ⟨g, 0, none⟩) n c l) (hi : i < n) (b : UInt8) :
    (w.frozen? ⟨g, i, none⟩ = false ∧ ∃ u, w.cell? ⟨g, i, none⟩ = some u) ∧ OwnB (w.setCell ⟨g, i, none⟩ (.int .u8 (b.toNat : Int))) B (some ⟨g, 0, none⟩) n c (l.take i ++ [b] ++ l.drop (i + 1)) := by
  obtain ⟨cur, hK, hsz, hback⟩ := own_seg h
  refine ⟨⟨hK.frozen i, _, (hK.cell i).trans (Array.getElem?_eq_getElem (by omega))⟩, hback _ _ i 1 [b] (hK.set_ i _) ?_ rfl (by omega)⟩
  have := (Seg.zero cur i ([b].flatMap bc)).step (v := .int .u8 (b.toNat : Int)) rfl (by omega)
  exact this
theorem own_some {w : World} {B n c : Nat} {A : Option Addr} {l : List UInt8} (h : OwnB w B A n c l) (hn : 0 < n) : ∃ g, A = some ⟨g, 0, none⟩ ∧ B ≤ g := by
  cases A with
  | none => exact absurd (h.is.none_ bc_len (by omega)).2 (by omega)
  | some ad =>
    obtain ⟨h1, h2, _⟩ := h.addr ad rfl
    exact ⟨ad.block, by rw [h1], h2⟩
theorem isb_vs_ {w : World} {g n : Nat} {vs : Array Value} (hg : w.heap.size = g) (hn : vs.size = n) (h : vs.toList = (unb vs).flatMap bc) : IsB (w.alloc (.cells vs 5)) (some ⟨g, 0, none⟩) n (unb vs) := by
  subst hg
  exact isb_vs w vs n hn h
end Go.Proofs.Ytaigofpipoimkaa
