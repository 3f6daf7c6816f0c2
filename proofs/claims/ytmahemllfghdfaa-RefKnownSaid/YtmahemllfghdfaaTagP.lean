/-
  The plain table of the types: category, element type, number of elements, kind.
-/
import Derived.Test.YtmahemllfghdfaaLib
namespace Go.Acc
/-- The category (1 inline, 2 offset, 3 vector; 0 is no type), the elements' type and their number, by type. -/
def tRows : List (Int × Int × Int) :=
  [(1, 0, 0), (1, 0, 0), (1, 0, 0), (0, 0, 0), (2, 0, 0), (2, 0, 0), (2, 0, 0), (2, 0, 0), (0, 0, 0), (2, 0, 0), (2, 0, 0), (3, 1, 0), (3, 2, 0), (0, 0, 0), (3, 4, 0), (0, 0, 0),
   (3, 1, 2), (3, 2, 2), (0, 0, 0), (3, 1, 3), (3, 2, 3), (0, 0, 0), (3, 1, 4), (3, 2, 4), (0, 0, 0), (2, 0, 0), (1, 0, 0), (0, 0, 0), (0, 0, 0), (0, 0, 0), (0, 0, 0), (0, 0, 0), (0, 0, 0), (0, 0, 0), (0, 0, 0), (0, 0, 0), (3, 26, 0)]
/-- The kind of each type. -/
def tKinds : List Int := [1, 3, 4, 0, 5, 6, 8, 9, 0, 17, 10, 11, 12, 0, 13, 0, 15, 16, 0, 15, 16, 0, 15, 16, 0, 7, 2, 0, 0, 0, 0, 0, 0, 0, 0, 0, 14]
def isT (t : Int) : Bool := decide (0 ≤ t ∧ t < 37)
def tRow (t : Int) : Int × Int × Int := if isT t = true then tRows.getD t.toNat (0, 0, 0) else (0, 0, 0)
def legalT (t : Int) : Bool := (tRow t).1 != 0
def inlineT (t : Int) : Bool := (tRow t).1 == 1
def vecT (t : Int) : Bool := (tRow t).1 == 3
def elemT (t : Int) : Int := (tRow t).2.1
def manyT (t : Int) : Int := (tRow t).2.2
def kindT (t : Int) : Int := if isT t = true then tKinds.getD t.toNat 0 else 0
def t37 : List Int := [0, 1, 2, 3, 4, 5, 6, 7, 8, 9, 10, 11, 12, 13, 14, 15, 16, 17, 18, 19, 20, 21, 22, 23, 24, 25, 26, 27, 28, 29, 30, 31, 32, 33, 34, 35, 36]
theorem isT_iff {t : Int} : isT t = true ↔ 0 ≤ t ∧ t < 37 := by simp [isT]
/-- A fact on all numbers from 0 to 36, one by one. -/
theorem t37_all {p : Int → Prop} (h : ∀ n : Fin 37, p ((n.val : Nat) : Int)) {t : Int} (ht : isT t = true) : p t := by
  have ht := isT_iff.1 ht
  obtain ⟨n, rfl⟩ := Int.eq_ofNat_of_zero_le ht.1
  exact h ⟨n, by omega⟩
theorem tRow_no {t : Int} (h : isT t = false) : tRow t = (0, 0, 0) := by simp [tRow, h]
theorem kindT_no {t : Int} (h : isT t = false) : kindT t = 0 := by simp [kindT, h]
theorem legal_isT {t : Int} (h : legalT t = true) : isT t = true := by
  cases e : isT t with
  | true => rfl
  | false => simp [legalT, tRow_no e] at h
theorem legal_kind {t : Int} (h : legalT t = false) : kindT t = 0 := by
  cases e : isT t with
  | false => exact kindT_no e
  | true =>
    revert h
    exact t37_all (p := fun t => legalT t = false → kindT t = 0) (by decide) e
theorem inline_legal {t : Int} (h : inlineT t = true) : legalT t = true := by
  unfold inlineT at h
  unfold legalT
  rw [eq_of_beq h]
  rfl
/-- What a tag says: the type, the width, the error. -/
def unT (c : UInt8) : Int := if legalT ((c.toNat : Int) / 4) = true then (c.toNat : Int) / 4 else 0
def unW (c : UInt8) : Int := if legalT ((c.toNat : Int) / 4) = true then 2 ^ (c.toNat % 4) else 0
def unE (c : UInt8) : Int := if legalT ((c.toNat : Int) / 4) = true then 0 else 20
theorem inline_no {t : Int} (h0 : t ≠ 0) (h1 : t ≠ 1) (h2 : t ≠ 2) (h3 : t ≠ 26) : inlineT t = false := by
  cases e : isT t with
  | false => simp [inlineT, tRow_no e]
  | true =>
    revert h0 h1 h2 h3
    exact t37_all (p := fun t => t ≠ 0 → t ≠ 1 → t ≠ 2 → t ≠ 26 → inlineT t = false) (by decide) e
end Go.Acc
