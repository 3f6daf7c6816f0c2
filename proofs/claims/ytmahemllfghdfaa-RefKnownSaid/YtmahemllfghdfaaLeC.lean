/-
  Package le and its reference: what fits, and the storing of digits.
-/
import Derived.Test.YtmahemllfghdfaaLeB
import Derived.Test.YtmahemllfghdfaaZeros
namespace Go.Proofs.Ytmahemllfghdfaa
open Go.RowKit Go.Acc

def fitsU (w u : Nat) : Bool := decide (w = 8 ∨ u < 2 ^ (8 * w))
def fitsI (w : Nat) (n : Int) : Bool := decide (w = 8 ∨ (-(2 ^ (8 * w - 1)) ≤ n ∧ n < 2 ^ (8 * w - 1)))
theorem w_cases {y : Nat} (h : isW (y : Int) = true) : y = 1 ∨ y = 2 ∨ y = 4 ∨ y = 8 := by have := isW_iff.1 h; omega

/-- The lowest bytes of a number, least significant first. -/
def leBytes (n u : Nat) : List UInt8 := (List.range n).map fun i => UInt8.ofNat (u / 2 ^ (8 * i))
theorem leBytes_length (n u : Nat) : (leBytes n u).length = n := by simp [leBytes]
theorem leBytes_get (n u k : Nat) (hk : k < (leBytes n u).length) : (leBytes n u)[k] = UInt8.ofNat (u / 2 ^ (8 * k)) := by simp [leBytes]
theorem leBytes_succ (n u : Nat) : leBytes (n + 1) u = leBytes n u ++ [UInt8.ofNat (u / 2 ^ (8 * n))] := by simp [leBytes, List.range_succ]
theorem leVal_leBytes (n u : Nat) : leVal (leBytes n u) = u % 2 ^ (8 * n) := by
  induction n with
  | zero => simp [leBytes, leVal, Nat.mod_one]
  | succ n ih =>
    rw [leBytes_succ, leVal_snoc, ih, leBytes_length, UInt8.toNat_ofNat', show 8 * (n + 1) = 8 * n + 8 by omega, Nat.pow_add, Nat.mod_mul, Nat.mul_comm (2 ^ (8 * n))]

/-- A stretch of an array is replaced. -/
def Seg (cur : Array Value) (off : Nat) (vs : List Value) (k : Nat) (cur' : Array Value) : Prop :=
  cur'.size = cur.size ∧ ∀ j, cur'[j]? = if off ≤ j ∧ j < off + k then vs[j - off]? else cur[j]?
theorem Seg.zero (cur : Array Value) (off : Nat) (vs : List Value) : Seg cur off vs 0 cur := ⟨rfl, fun j => by rw [if_neg (by omega)]⟩
theorem Seg.step {cur cur' : Array Value} {off k : Nat} {vs : List Value} (h : Seg cur off vs k cur') {v : Value} (hv : vs[k]? = some v) (hk : off + k < cur.size) : Seg cur off vs (k + 1) (cur'.setIfInBounds (off + k) v) := by
  refine ⟨by simpa using h.1, fun j => ?_⟩
  rw [Array.getElem?_setIfInBounds, h.2]
  by_cases e : off + k = j
  · subst e
    rw [if_pos rfl, if_pos (by rw [h.1]; exact hk), if_pos (by omega), Nat.add_sub_cancel_left, hv]
  · rw [if_neg e]
    by_cases h1 : off ≤ j ∧ j < off + k
    · rw [if_pos h1, if_pos (by omega)]
    · rw [if_neg h1, if_neg (by omega)]
theorem Seg.take {cur cur' : Array Value} {off n m : Nat} {vs : List Value} (h : Seg cur off vs n cur') (hv : vs.length = n) (hm : off + n ≤ m) (hs : m ≤ cur.size) : cur'.toList.take m = (cur.toList.take m).take off ++ vs ++ (cur.toList.take m).drop (off + n) := by
  apply List.ext_getElem?
  intro j
  rw [List.getElem?_take]
  have hj := h.2 j
  rw [← Array.getElem?_toList] at hj
  split
  · rename_i hjm
    rw [hj]
    by_cases h1 : j < off
    · rw [if_neg (by omega), List.append_assoc, List.getElem?_append_left (by simp; omega), List.getElem?_take, if_pos h1, List.getElem?_take, if_pos hjm, Array.getElem?_toList]
    · by_cases h2 : j < off + n
      · rw [if_pos (by omega), List.append_assoc, List.getElem?_append_right (by simp; omega), List.getElem?_append_left (by simp; omega)]
        congr 1
        simp; omega
      · rw [if_neg (by omega), List.getElem?_append_right (by simp; omega), List.getElem?_drop, List.getElem?_take, ← Array.getElem?_toList]
        have e : off + n + (j - ((cur.toList.take m).take off ++ vs).length) = j := by simp; omega
        rw [e, if_pos hjm]
  · rename_i hjm
    rw [List.getElem?_eq_none]
    simp; omega

theorem digit_byte (u k : Nat) : (u : Int) / 2 ^ (8 * k) % 256 = ((UInt8.ofNat (u / 2 ^ (8 * k))).toNat : Int) := by
  have e : (u : Int) / 2 ^ (8 * k) = ((u / 2 ^ (8 * k) : Nat) : Int) := by simp
  rw [e, UInt8.toNat_ofNat']
  omega
theorem fitsI_iff {y : Nat} {n : Int} : fitsI y n = true ↔ (y = 8 ∨ (-(2 ^ (8 * y - 1)) ≤ n ∧ n < 2 ^ (8 * y - 1))) := by simp [fitsI]
end Go.Proofs.Ytmahemllfghdfaa
