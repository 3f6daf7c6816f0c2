/-
  A text behind its length, in plain terms.
-/
import Derived.Test.YtdoagpophikgjaaTextH
import Derived.Test.YtdoagpophikgjaaLeP
namespace Go.Proofs.Ytdoagpophikgjaa
open Go.RowKit Go.Acc
theorem len_tgt {y : List UInt8} {a d W : Nat} {t : Int} (ht : t = 25 ∨ t = 5) (hW : isW (W : Int) = true) (h4 : loadU y ((a + d : Nat) : Int) 2 = d) (hl : y.length = a + d + 2) :
    mayE y.length ((a + d : Nat) : Int) 2 t W = 0 ∧ tgtE y ((a + d : Nat) : Int) 2 t W = 0 ∧ tgt y ((a + d : Nat) : Int) 2 t W = a := by
  have h0 : mayE y.length ((a + d : Nat) : Int) 2 t W = 0 := by
    rw [mayE_ok]
    refine ⟨formed_iff.2 ⟨?_, by decide, hW⟩, inB_iff.2 ⟨by omega, by omega, by omega⟩⟩
    rcases ht with rfl | rfl <;> decide
  have hi : inlineT t = false := by rcases ht with rfl | rfl <;> decide
  have hu : ¬ ((a + d : Nat) : Int) < (loadU y ((a + d : Nat) : Int) 2 : Int) := by rw [h4]; omega
  refine ⟨h0, tgtE_ok h0 hi hu, ?_⟩
  rw [tgt_ok h0 hi hu, h4]
  omega
theorem len_cnt {y : List UInt8} {a n W k : Nat} (h1 : a % W = 0) (h2 : W ≤ a) (h3 : loadU y ((a : Int) - W) W = n) :
    cntE y a W k = if y.length < a + n + k then 211 else if (y.drop (a + n)).take k = List.replicate k 0 then 0 else 213 := by
  unfold cntE
  rw [h3, if_neg (by simpa using h1), if_neg (by omega)]
theorem len_blob {y : List UInt8} {a d n W : Nat} (hW : isW (W : Int) = true) (h1 : a % W = 0) (h2 : W ≤ a) (h3 : loadU y ((a : Int) - W) W = n) (h4 : loadU y ((a + d : Nat) : Int) 2 = d) (hl : y.length = a + d + 2) :
    (y.length < a + n → fndE y ((a + d : Nat) : Int) 2 25 W [25] = 211 ∧ fndL y ((a + d : Nat) : Int) 2 25 W [25] = []) ∧
    (a + n ≤ y.length → fndE y ((a + d : Nat) : Int) 2 25 W [25] = 0 ∧ fndL y ((a + d : Nat) : Int) 2 25 W [25] = (y.drop a).take n) := by
  obtain ⟨e0, e1, e2⟩ := len_tgt (.inl rfl) hW h4 hl
  have hE : fndE y ((a + d : Nat) : Int) 2 25 W [25] = cntE y a W 0 := by
    unfold fndE
    rw [e0, e1, e2, if_neg (by decide), if_neg (by decide), if_neg (by decide), if_neg (by decide), if_neg (by decide), Int.toNat_natCast, Int.toNat_natCast]
  have hc := len_cnt (k := 0) h1 h2 h3
  unfold fndL
  rw [hE, hc, e2]
  constructor
  · intro h
    rw [if_pos (by omega)]
    exact ⟨rfl, rfl⟩
  · intro h
    rw [if_neg (by omega)]
    refine ⟨by simp, ?_⟩
    rw [if_pos (by simp), if_neg (by decide), Int.toNat_natCast, Int.toNat_natCast]
    unfold cntL
    rw [h3]
theorem take1 {l : List UInt8} {i : Nat} (h : i < l.length) : (l.drop i).take 1 = [l[i]] := by
  rw [List.drop_eq_getElem_cons h]
  rfl
theorem len_str {y : List UInt8} {a d n W : Nat} (hW : isW (W : Int) = true) (h1 : a % W = 0) (h2 : W ≤ a) (h3 : loadU y ((a : Int) - W) W = n) (h4 : loadU y ((a + d : Nat) : Int) 2 = d) (hl : y.length = a + d + 2) :
    (y.length < a + n + 1 → fndE y ((a + d : Nat) : Int) 2 5 W [5] = 211 ∧ fndL y ((a + d : Nat) : Int) 2 5 W [5] = []) ∧
    (∀ h : a + n < y.length, y[a + n] ≠ 0 → fndE y ((a + d : Nat) : Int) 2 5 W [5] = 213 ∧ fndL y ((a + d : Nat) : Int) 2 5 W [5] = []) ∧
    (∀ h : a + n < y.length, y[a + n] = 0 → fndE y ((a + d : Nat) : Int) 2 5 W [5] = 0 ∧ fndL y ((a + d : Nat) : Int) 2 5 W [5] = (y.drop a).take n) := by
  obtain ⟨e0, e1, e2⟩ := len_tgt (.inr rfl) hW h4 hl
  have hE : fndE y ((a + d : Nat) : Int) 2 5 W [5] = cntE y a W 1 := by
    unfold fndE
    rw [e0, e1, e2, if_neg (by decide), if_neg (by decide), if_neg (by decide), if_neg (by decide), if_pos rfl, Int.toNat_natCast, Int.toNat_natCast]
  have hc := len_cnt (k := 1) h1 h2 h3
  unfold fndL
  rw [hE, hc, e2]
  refine ⟨fun h => ?_, fun h h' => ?_, fun h h' => ?_⟩
  · rw [if_pos h]
    exact ⟨rfl, rfl⟩
  · rw [if_neg (by omega), take1 h, if_neg (by simpa using h')]
    exact ⟨rfl, rfl⟩
  · rw [if_neg (by omega), take1 h, h', if_pos (show ([0] : List UInt8) = List.replicate 1 0 from rfl)]
    refine ⟨rfl, ?_⟩
    rw [if_pos rfl, if_neg (by decide), Int.toNat_natCast, Int.toNat_natCast]
    unfold cntL
    rw [h3]
/-- The bytes of a length behind zeros, its contents, and the way back. -/
theorem len_loads {z inn : List UInt8} {W n : Nat} (hW : isW (W : Int) = true) (hn : n < 2 ^ (8 * W)) (hd : inn.length < 65536) :
    loadU (z ++ leBytes W n ++ inn ++ leBytes 2 inn.length) (((z.length + W : Nat) : Int) - W) W = n ∧ loadU (z ++ leBytes W n ++ inn ++ leBytes 2 inn.length) ((z.length + W + inn.length : Nat) : Int) 2 = inn.length := by
  have l1 := leBytes_length W n
  have l2 := leBytes_length 2 inn.length
  have hw8 := isW_iff.1 hW
  constructor
  · unfold loadU
    rw [if_pos ⟨hW, by omega, by simp [l1]; omega⟩, show (((z.length + W : Nat) : Int) - W).toNat = z.length by omega, Int.toNat_natCast]
    rw [List.append_assoc, List.append_assoc, List.drop_left, List.take_append_of_le_length (by omega), List.take_of_length_le (by omega), leVal_leBytes_lt hn]
  · unfold loadU
    rw [if_pos ⟨by decide, by omega, by simp [l1, l2]; omega⟩, Int.toNat_natCast, show (2 : Int).toNat = 2 from rfl]
    rw [show z.length + W + inn.length = (z ++ leBytes W n ++ inn).length by simp [l1]; omega, List.drop_left, List.take_of_length_le (by omega), leVal_leBytes_lt (by omega)]
end Go.Proofs.Ytdoagpophikgjaa
