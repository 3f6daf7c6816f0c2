/-
  Lists of bytes that agree on a stretch; a stretch of one laid over another.
-/
import Derived.Test.YtaigofpipoimkaaLeB
namespace Go.Proofs.Ytaigofpipoimkaa
open Go.RowKit Go.Acc
/-- l and m agree from place a on, before place b. -/
def Agree (l m : List UInt8) (a b : Nat) : Prop := ∀ i, a ≤ i → i < b → l[i]? = m[i]?
theorem Agree.mono {l m : List UInt8} {a b a' b' : Nat} (h : Agree l m a b) (h1 : a ≤ a') (h2 : b' ≤ b) : Agree l m a' b' := fun i hi hj => h i (by omega) (by omega)
theorem Agree.cut {l m : List UInt8} {a b : Nat} (h : Agree l m a b) (k : Nat) (hk : a + k ≤ b) : (l.drop a).take k = (m.drop a).take k := by
  apply List.ext_getElem?
  intro i
  rw [List.getElem?_take, List.getElem?_take]
  split
  · rw [List.getElem?_drop, List.getElem?_drop]
    exact h _ (by omega) (by omega)
  · rfl
theorem loadU_agree {l m : List UInt8} {p q : Int} (hl : m.length = l.length) (h : Agree l m p.toNat (p + q).toNat) (hq : 0 ≤ q) (hp : 0 ≤ p) : loadU m p q = loadU l p q := by
  unfold loadU
  rw [hl, h.cut q.toNat (by omega)]
/-- A stretch of l laid over m. -/
def over (l m : List UInt8) (a b : Nat) : List UInt8 := m.take a ++ (l.drop a).take (b - a) ++ m.drop b
theorem over_len {l m : List UInt8} {a b : Nat} (hl : m.length = l.length) (h1 : a ≤ b) (h2 : b ≤ l.length) : (over l m a b).length = l.length := by
  unfold over; simp; omega
theorem over_get {l m : List UInt8} {a b : Nat} (hl : m.length = l.length) (h1 : a ≤ b) (h2 : b ≤ l.length) (i : Nat) : (over l m a b)[i]? = if a ≤ i ∧ i < b then l[i]? else m[i]? := by
  unfold over
  by_cases c1 : i < a
  · rw [if_neg (by omega), List.append_assoc, List.getElem?_append_left (by simp; omega), List.getElem?_take, if_pos c1]
  · by_cases c2 : i < b
    · rw [if_pos (by omega), List.append_assoc, List.getElem?_append_right (by simp; omega), List.getElem?_append_left (by simp; omega), List.getElem?_take, if_pos (by simp; omega), List.getElem?_drop]
      congr 1
      simp; omega
    · rw [if_neg (by omega), List.getElem?_append_right (by simp; omega), List.getElem?_drop]
      congr 1
      simp; omega
theorem over_agree {l m : List UInt8} {a b : Nat} (hl : m.length = l.length) (h1 : a ≤ b) (h2 : b ≤ l.length) : Agree l (over l m a b) a b := fun i hi hj => by
  rw [over_get hl h1 h2, if_pos ⟨hi, hj⟩]
theorem over_keeps {l m : List UInt8} {a b c d : Nat} (hl : m.length = l.length) (h1 : a ≤ b) (h2 : b ≤ l.length) (h : Agree l m c d) : Agree l (over l m a b) c d := fun i hi hj => by
  rw [over_get hl h1 h2]
  split
  · rfl
  · exact h i hi hj
end Go.Proofs.Ytaigofpipoimkaa
