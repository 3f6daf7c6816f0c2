/-
  References, in plain terms: within the bytes, well-formed, target, root, sameness.
-/
import Derived.Test.YtmahemllfghdfaaTagP
import Derived.Test.YtmahemllfghdfaaLeB
namespace Go.Proofs.Ytmahemllfghdfaa
open Go.RowKit Go.Acc
def inB (n : Nat) (a m : Int) : Bool := decide (0 ≤ a ∧ 0 ≤ m ∧ a + m ≤ n)
theorem inB_iff {n : Nat} {a m : Int} : inB n a m = true ↔ 0 ≤ a ∧ 0 ≤ m ∧ a + m ≤ n := by simp [inB]
theorem inB_no {n : Nat} {a m : Int} (h : inB n a m = false) : ¬ (0 ≤ a ∧ 0 ≤ m ∧ a + m ≤ n) := by rw [← inB_iff, h]; simp
def formed (q t v : Int) : Bool := legalT t && isW q && isW v
def mayE (n : Nat) (p q t v : Int) : Int := if formed q t v = true then (if inB n p q = true then 0 else 6) else 2
theorem mayE_ok {n : Nat} {p q t v : Int} : mayE n p q t v = 0 ↔ formed q t v = true ∧ inB n p q = true := by
  unfold mayE
  cases formed q t v <;> cases inB n p q <;> simp
theorem formed_iff {q t v : Int} : formed q t v = true ↔ legalT t = true ∧ isW q = true ∧ isW v = true := by
  simp [formed, and_assoc]
def tgtE (l : List UInt8) (p q t v : Int) : Int :=
  if mayE l.length p q t v = 0 then (if inlineT t = true then 60 else if p < (loadU l p q : Int) then 211 else 0) else mayE l.length p q t v
def tgt (l : List UInt8) (p q t v : Int) : Int := if tgtE l p q t v = 0 then p - loadU l p q else 0
theorem may_load {l : List UInt8} {p q t v : Int} (h : mayE l.length p q t v = 0) : loadE l.length p q = 0 := by
  obtain ⟨h1, h2⟩ := mayE_ok.1 h
  have h1 := formed_iff.1 h1
  have h2 := inB_iff.1 h2
  unfold loadE
  rw [if_pos h1.2.1, if_pos ⟨h2.1, h2.2.2⟩]
theorem tgtE_may {l : List UInt8} {p q t v : Int} (h : mayE l.length p q t v ≠ 0) : tgtE l p q t v = mayE l.length p q t v := if_neg h
theorem tgt_may {l : List UInt8} {p q t v : Int} (h : mayE l.length p q t v ≠ 0) : tgt l p q t v = 0 := by
  unfold tgt
  rw [tgtE_may h, if_neg h]
theorem tgtE_inl {l : List UInt8} {p q t v : Int} (h : mayE l.length p q t v = 0) (hi : inlineT t = true) : tgtE l p q t v = 60 := by
  unfold tgtE
  rw [if_pos h, if_pos hi]
theorem tgt_inl {l : List UInt8} {p q t v : Int} (h : mayE l.length p q t v = 0) (hi : inlineT t = true) : tgt l p q t v = 0 := by
  unfold tgt
  rw [tgtE_inl h hi]
  rfl
theorem tgtE_off {l : List UInt8} {p q t v : Int} (h : mayE l.length p q t v = 0) (hi : inlineT t = false) (hu : p < (loadU l p q : Int)) : tgtE l p q t v = 211 := by
  unfold tgtE
  rw [if_pos h, if_neg (by simp [hi]), if_pos hu]
theorem tgt_off {l : List UInt8} {p q t v : Int} (h : mayE l.length p q t v = 0) (hi : inlineT t = false) (hu : p < (loadU l p q : Int)) : tgt l p q t v = 0 := by
  unfold tgt
  rw [tgtE_off h hi hu]
  rfl
theorem tgtE_ok {l : List UInt8} {p q t v : Int} (h : mayE l.length p q t v = 0) (hi : inlineT t = false) (hu : ¬ p < (loadU l p q : Int)) : tgtE l p q t v = 0 := by
  unfold tgtE
  rw [if_pos h, if_neg (by simp [hi]), if_neg hu]
theorem tgt_ok {l : List UInt8} {p q t v : Int} (h : mayE l.length p q t v = 0) (hi : inlineT t = false) (hu : ¬ p < (loadU l p q : Int)) : tgt l p q t v = p - loadU l p q := by
  unfold tgt
  rw [tgtE_ok h hi hu]
  rfl
def sameR (p q t v p' q' t' v' : Int) : Bool := decide (p = p' ∧ q = q' ∧ t = t' ∧ (inlineT t = true ∨ t = 4 ∨ v = v'))
/-- The error of the root, and its four numbers. -/
def rootE (l : List UInt8) : Int :=
  if l.length < 3 ∨ isW ((l.getD (l.length - 1) 0).toNat : Int) = false then 210
  else if unE (l.getD (l.length - 2) 0) ≠ 0 then unE (l.getD (l.length - 2) 0)
  else if (l.length : Int) - 2 - (l.getD (l.length - 1) 0).toNat < 0 ∨ ((l.length : Int) - 2 - (l.getD (l.length - 1) 0).toNat) % (l.getD (l.length - 1) 0).toNat ≠ 0 then 210 else 0
def rootR (l : List UInt8) : Int × Int × Int × Int :=
  if rootE l = 0 then ((l.length : Int) - 2 - (l.getD (l.length - 1) 0).toNat, (l.getD (l.length - 1) 0).toNat, unT (l.getD (l.length - 2) 0), unW (l.getD (l.length - 2) 0)) else (0, 0, 0, 0)
end Go.Proofs.Ytmahemllfghdfaa
