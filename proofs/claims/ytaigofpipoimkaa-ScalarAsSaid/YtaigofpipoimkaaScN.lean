/-
  Package scalar: inline and indirect numbers, in plain terms.
-/
import Derived.Test.YtaigofpipoimkaaScJ
namespace Go.Proofs.Ytaigofpipoimkaa
open Go.RowKit Go.Acc
theorem as_load {l : List UInt8} (hl : l.length = 16) (h8 : l.getD 8 0 = 8) : loadU l 8 1 = 8 := by
  match l, hl, h8 with
  | [x0, x1, x2, x3, x4, x5, x6, x7, x8, x9, x10, x11, x12, x13, x14, x15], _, h8 =>
    obtain rfl : x8 = 8 := h8
    rfl
theorem as_top {l : List UInt8} (hl : l.length = 16) {W : Nat} (hW : W = 1 ∨ W = 2 ∨ W = 4 ∨ W = 8) : (l.getD (W - 1) 0).toNat < 128 ↔ loadU l 0 W < 2 ^ (8 * W - 1) := by
  match l, hl with
  | [x0, x1, x2, x3, x4, x5, x6, x7, x8, x9, x10, x11, x12, x13, x14, x15], _ =>
    have := x0.toNat_lt; have := x1.toNat_lt; have := x2.toNat_lt; have := x3.toNat_lt
    have := x4.toNat_lt; have := x5.toNat_lt; have := x6.toNat_lt; have := x7.toNat_lt
    rcases hW with rfl | rfl | rfl | rfl
    all_goals
      unfold loadU
      rw [if_pos ⟨by decide, by decide, by simp⟩]
      simp [leVal] <;> omega
theorem as_in {l : List UInt8} (hl : l.length = 16) {W t : Int} (hW : W = 1 ∨ W = 2 ∨ W = 4 ∨ W = 8) (ht : t = 1 ∨ t = 2) : plcE l 0 W t 1 = 0 ∧ plcA l 0 W t 1 = 0 ∧ plcW l 0 W t 1 = W := by
  have hm : mayE l.length 0 W t 1 = 0 := by
    rw [hl]
    rcases hW with rfl | rfl | rfl | rfl <;> rcases ht with rfl | rfl <;> rfl
  have hS : isS t = true ∧ inlineT t = true := by rcases ht with rfl | rfl <;> exact ⟨rfl, rfl⟩
  have hE : plcE l 0 W t 1 = 0 := by
    unfold plcE
    rw [hm, if_neg (by decide), if_neg (by rw [hS.1]; decide), if_pos hS.2]
  refine ⟨hE, ?_, ?_⟩
  · unfold plcA; rw [if_pos hE, if_pos hS.2]
  · unfold plcW; rw [if_pos hE, if_pos hS.2]
theorem as_off {l : List UInt8} (hl : l.length = 16) (h8 : l.getD 8 0 = 8) {W t : Int} (hW : W = 1 ∨ W = 2 ∨ W = 4 ∨ W = 8) (ht : t = 6 ∨ t = 7) : plcE l 8 1 t W = 0 ∧ plcA l 8 1 t W = 0 ∧ plcW l 8 1 t W = W := by
  have hm : mayE l.length 8 1 t W = 0 := by
    rw [hl]
    rcases hW with rfl | rfl | rfl | rfl <;> rcases ht with rfl | rfl <;> rfl
  have hS : isS t = true ∧ inlineT t = false := by rcases ht with rfl | rfl <;> exact ⟨rfl, rfl⟩
  have hu := as_load hl h8
  have ht1 : tgtE l 8 1 t W = 0 := tgtE_ok hm hS.2 (by rw [hu]; decide)
  have ht2 : tgt l 8 1 t W = 0 := by rw [tgt_ok hm hS.2 (by rw [hu]; decide), hu]; rfl
  have hE : plcE l 8 1 t W = 0 := by
    unfold plcE
    rw [hm, ht1, ht2, hl, if_neg (by decide), if_neg (by rw [hS.1]; decide), if_neg (by rw [hS.2]; decide), if_neg (by decide), if_neg (by simp)]
    rcases hW with rfl | rfl | rfl | rfl <;> rfl
  refine ⟨hE, ?_, ?_⟩
  · unfold plcA; rw [if_pos hE, if_neg (by rw [hS.2]; decide), ht2]
  · unfold plcW; rw [if_pos hE, if_neg (by rw [hS.2]; decide)]
theorem as_same {l : List UInt8} (hl : l.length = 16) (h8 : l.getD 8 0 = 8) {W t t' : Int} (hW : W = 1 ∨ W = 2 ∨ W = 4 ∨ W = 8) (ht : (t = 1 ∧ t' = 6) ∨ (t = 2 ∧ t' = 7)) :
    intV l 8 1 t' W = intV l 0 W t 1 ∧ intE l 8 1 t' W = intE l 0 W t 1 ∧ uintV l 8 1 t' W = uintV l 0 W t 1 ∧ uintE l 8 1 t' W = uintE l 0 W t 1 := by
  obtain ⟨a1, a2, a3⟩ := as_in hl hW (t := t) (by omega)
  obtain ⟨b1, b2, b3⟩ := as_off hl h8 hW (t := t') (by omega)
  have eN : scN l 8 1 t' W = scN l 0 W t 1 := by
    unfold scN rdN
    rw [a1, a2, a3, b1, b2, b3]
    rcases ht with ⟨rfl, rfl⟩ | ⟨rfl, rfl⟩ <;> simp
  have eU : scU l 8 1 t' W = scU l 0 W t 1 := by
    unfold scU rdU
    rw [a1, a2, a3, b1, b2, b3]
    rcases ht with ⟨rfl, rfl⟩ | ⟨rfl, rfl⟩ <;> rfl
  unfold intV intE uintV uintE
  rw [eN, eU, a1, b1]
  exact ⟨rfl, rfl, rfl, rfl⟩
theorem as_uint {l : List UInt8} (hl : l.length = 16) {W : Nat} (hW : W = 1 ∨ W = 2 ∨ W = 4 ∨ W = 8) : uintE l 0 W 2 1 = 0 ∧ ((l.getD (W - 1) 0).toNat < 128 → uintV l 0 W 1 1 = uintV l 0 W 2 1 ∧ uintE l 0 W 1 1 = 0) ∧ (¬ (l.getD (W - 1) 0).toNat < 128 → uintE l 0 W 1 1 = 10) := by
  have hW' : (W : Int) = 1 ∨ (W : Int) = 2 ∨ (W : Int) = 4 ∨ (W : Int) = 8 := by omega
  obtain ⟨a1, a2, a3⟩ := as_in hl hW' (t := 1) (by omega)
  obtain ⟨b1, b2, b3⟩ := as_in hl hW' (t := 2) (by omega)
  have ht := as_top hl hW
  have hI : loadI l 0 W = sx W (loadU l 0 W) := by
    unfold loadI
    rw [if_pos ⟨by rcases hW with rfl | rfl | rfl | rfl <;> rfl, by omega, by rw [hl]; omega⟩]
    rfl
  have hlt := loadU_lt l 0 W
  have n2 : scN l 0 W 2 1 = false := by
    unfold scN rdN
    rw [b1, decide_eq_false (p := ((2 : Int) = 1 ∨ (2 : Int) = 6) ∧ _) (by omega)]
    rfl
  have u2 : scU l 0 W 2 1 = loadU l 0 W := by
    unfold scU rdU
    rw [if_pos b1, b2, b3]
    rfl
  have n1 : scN l 0 W 1 1 = decide (loadI l 0 W < 0) := by
    unfold scN rdN
    rw [a1, a2, a3]
    simp
  have u1 : scU l 0 W 1 1 = (loadI l 0 W).natAbs := by
    unfold scU rdU
    rw [if_pos a1, a2, a3]
    rfl
  refine ⟨?_, fun h => ?_, fun h => ?_⟩
  · unfold uintE; rw [b1, n2]; rfl
  · have h1 := ht.1 h
    have hs : loadI l 0 W = loadU l 0 W := by rw [hI]; unfold sx; rw [if_pos h1]
    have hn : scN l 0 W 1 1 = false := by rw [n1, hs]; exact decide_eq_false (by omega)
    unfold uintV uintE
    rw [hn, n2, u1, u2, hs, a1]
    exact ⟨rfl, rfl⟩
  · have h1 : ¬ loadU l 0 W < 2 ^ (8 * W - 1) := fun x => h (ht.2 x)
    have hs : loadI l 0 W < 0 := by
      rw [hI]
      unfold sx
      rw [if_neg h1]
      have : ((2 ^ (8 * W) : Nat) : Int) = (2 : Int) ^ (8 * W) := by simp
      omega
    have hn : scN l 0 W 1 1 = true := by rw [n1]; exact decide_eq_true hs
    unfold uintE
    rw [hn, a1]
    rfl
end Go.Proofs.Ytaigofpipoimkaa
