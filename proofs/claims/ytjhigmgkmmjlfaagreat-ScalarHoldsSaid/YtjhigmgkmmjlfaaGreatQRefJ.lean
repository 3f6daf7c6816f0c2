/-
  Package ref: the property RefEnds.
-/
import Derived.Test.YtjhigmgkmmjlfaaGreatQ22
namespace Go.Proofs.YtjhigmgkmmjlfaaGreat
open Go.RowKit Go.Acc
/-- The error and the root of so many bytes before a tag and a width. -/
def endE (n : Nat) (c : UInt8) (x : Nat) : Int := if n = 0 then 210 else if unE c ≠ 0 then unE c else if (n : Int) - x < 0 ∨ ((n : Int) - x) % x ≠ 0 then 210 else 0
def endR (n : Nat) (c : UInt8) (x : Nat) : Int × Int × Int × Int := if endE n c x = 0 then ((n : Int) - x, (x : Int), unT c, unW c) else (0, 0, 0, 0)
theorem last_app {l : List UInt8} {c d : UInt8} : (l ++ [c, d]).getD ((l ++ [c, d]).length - 1) 0 = d := by
  simp [List.getD_eq_getElem?_getD]
theorem last2_app {l : List UInt8} {c d : UInt8} : (l ++ [c, d]).getD ((l ++ [c, d]).length - 2) 0 = c := by
  simp [List.getD_eq_getElem?_getD]
theorem rootE_app (l : List UInt8) (c d : UInt8) (hd : isW (d.toNat : Int) = true) : rootE (l ++ [c, d]) = endE l.length c d.toNat := by
  unfold rootE endE
  rw [last_app, last2_app, hd, show (l ++ [c, d]).length = l.length + 2 by simp]
  by_cases h : l.length = 0
  · rw [if_pos (.inl (by omega)), if_pos h]
  · rw [if_neg (by simp; omega), if_neg h]
    by_cases hu : unE c = 0
    · rw [show ((l.length + 2 : Nat) : Int) - 2 - (d.toNat : Int) = (l.length : Int) - d.toNat by omega, hu]
    · rw [if_pos hu, if_pos hu]
theorem rootR_app (l : List UInt8) (c d : UInt8) (hd : isW (d.toNat : Int) = true) : rootR (l ++ [c, d]) = endR l.length c d.toNat := by
  unfold rootR endR
  rw [rootE_app l c d hd, last_app, last2_app, show (l ++ [c, d]).length = l.length + 2 by simp, show ((l.length + 2 : Nat) : Int) - 2 - (d.toNat : Int) = (l.length : Int) - d.toNat by omega]
/-- If a third byte follows and there is a root, it lies before its last two. -/
theorem rootR_sum (l : List UInt8) (h : rootE l = 0) : (rootR l).1 + (rootR l).2.1 = (l.length : Int) - 2 := by
  unfold rootR
  rw [if_pos h]
  exact Int.sub_add_cancel _ _
theorem quad (r : Int × Int × Int × Int) : ∃ a b c d, r = (a, b, c, d) := ⟨_, _, _, _, rfl⟩
theorem bring_wd (n : Int) : n % 4 = 0 ∨ n % 4 = 1 ∨ n % 4 = 2 ∨ n % 4 = 3 := by omega
theorem ends_cases (n : Nat) (c : UInt8) (x : Nat) (hx : 0 < x) : (n = 0 ∧ endE n c x = 210) ∨ (0 < n ∧ unE c ≠ 0 ∧ unE c = 20 ∧ endE n c x = 20) ∨ (0 < n ∧ unE c = 0 ∧ n < x ∧ endE n c x = 210) ∨
    (0 < n ∧ unE c = 0 ∧ x ≤ n ∧ (((n : Int) - x) % x ≠ 0) ∧ endE n c x = 210) ∨ (0 < n ∧ unE c = 0 ∧ x ≤ n ∧ ((n : Int) - x) % x = 0 ∧ endE n c x = 0 ∧ endR n c x = ((n : Int) - x, (x : Int), unT c, unW c)) := by
  by_cases h : n = 0
  · exact .inl ⟨h, if_pos h⟩
  by_cases hu : unE c = 0
  · by_cases h1 : n < x
    · refine .inr (.inr (.inl ⟨by omega, hu, h1, ?_⟩))
      unfold endE
      rw [if_neg h, if_neg (by simpa using hu), if_pos (.inl (by omega))]
    · by_cases h2 : ((n : Int) - x) % x = 0
      · have e : endE n c x = 0 := by
          unfold endE
          rw [if_neg h, if_neg (by simpa using hu), if_neg (by rintro (h3 | h3); omega; exact h3 h2)]
        exact .inr (.inr (.inr (.inr ⟨by omega, hu, by omega, h2, e, if_pos e⟩)))
      · refine .inr (.inr (.inr (.inl ⟨by omega, hu, by omega, h2, ?_⟩)))
        unfold endE
        rw [if_neg h, if_neg (by simpa using hu), if_pos (.inr h2)]
  · have h20 : unE c = 20 := by
      unfold unE at hu ⊢
      split at hu
      · exact absurd rfl hu
      · rename_i h; rw [if_neg h]
    refine .inr (.inl ⟨by omega, hu, h20, ?_⟩)
    unfold endE
    rw [if_neg h, if_pos hu, h20]
theorem is_blk_n {α : Type} {f : α → List Value} {w : World} {g n : Nat} {t : TypeId} {cs : Array Value} (l : List α) (hB : Blk w g t cs) (hn : l.length = n) (h : cs.toList = l.flatMap f) : Is f w (some ⟨g, 0, none⟩) n l := by
  refine ⟨hn, fun j u hu => ⟨_, _, rfl, ?_⟩⟩
  rw [Nat.zero_add, hB.cell j]
  rw [← h] at hu
  simpa using hu
end Go.Proofs.YtjhigmgkmmjlfaaGreat
