/-
  Package list: what holds of a vector and of its elements, in plain terms.
-/
import Derived.Test.YtaigofpipoimkaaLiK
import Derived.Test.YtaigofpipoimkaaLiE
namespace Go.Proofs.Ytaigofpipoimkaa
open Go.RowKit Go.Acc
theorem isl_vec {t : Int} (h : isL t = true) : tgs t = if vecT t = true then 0 else 1 := by
  unfold isL at h
  unfold tgs tagT
  cases hv : vecT t with
  | true =>
    cases ht : decide (t = 9 ∨ t = 10) with
    | false => rfl
    | true => exact absurd (tag_vec (t := t) ht) (by rw [hv]; decide)
  | false =>
    rw [hv, Bool.or_false] at h
    rw [h]
    rfl
theorem isl_tag {t : Int} (h : isL t = true) : tagT t = !vecT t := by
  have h1 := isl_vec h
  unfold tgs at h1
  cases hv : vecT t <;> cases ht : tagT t <;> rw [hv, ht] at h1 <;> first | rfl | (exact absurd h1 (by decide))
theorem ls_within {l : List UInt8} {p q t : Int} {V : Nat} (h : lsE l p q t V = 0) :
    lsFrom l p q t V ≤ lsAt l p q t V ∧ lsAt l p q t V + (lsLen l p q t V * V + lsLen l p q t V * tgs t) = lsTo l p q t V ∧ lsTo l p q t V ≤ l.length ∧ (V = 1 ∨ V = 2 ∨ V = 4 ∨ V = 8) ∧ (lsAt l p q t V : Int) % V = 0 ∧ isL t = true := by
  obtain ⟨h1, _, h2, h3, _, _, _, _, h4⟩ := ls_ok h
  have hw := isW_iff.1 h2
  rw [Int.toNat_natCast] at h3
  have hT : lsTo l p q t V = lsAt l p q t V + lsLen l p q t V * (V + tgs t) := by
    unfold lsTo lsAt lsLen
    rw [if_pos h, if_pos h, if_pos h]
    unfold lsX
    rw [Int.toNat_natCast]
  have hF : lsFrom l p q t V ≤ lsAt l p q t V := by
    unfold lsFrom lsAt
    rw [if_pos h, if_pos h]
    exact Nat.sub_le _ _
  exact ⟨hF, by rw [hT, Nat.mul_add], by rw [hT]; exact h3, by omega, h4, h1⟩
theorem unw_isW {c : UInt8} (h : unE c = 0) : legalT (unT c) = true ∧ isW (unW c) = true := by
  unfold unE at h
  by_cases hl : legalT ((c.toNat : Int) / 4) = true
  · unfold unT unW
    rw [if_pos hl, if_pos hl]
    refine ⟨hl, ?_⟩
    have : c.toNat % 4 = 0 ∨ c.toNat % 4 = 1 ∨ c.toNat % 4 = 2 ∨ c.toNat % 4 = 3 := by omega
    rcases this with e | e | e | e <;> rw [e] <;> rfl
  · rw [if_neg hl] at h; cases h
theorem vec_elem {t : Int} (h : vecT t = true) : legalT (elemT t) = true := by
  cases ht : isT t with
  | false =>
    unfold vecT at h
    rw [tRow_no ht] at h
    cases h
  | true =>
    revert h
    refine t37_all (p := fun t => vecT t = true → legalT (elemT t) = true) ?_ ht
    decide
theorem elem_may {l : List UInt8} {p q t : Int} {V I : Nat} (h : lsE l p q t V = 0) (hi : I < lsLen l p q t V) :
    (atE l p q t V I = 20 ∧ vecT t = false) ∨
    (atE l p q t V I = 0 ∧ atP l p q t V I = (lsAt l p q t V : Int) + (I : Int) * (V : Int) ∧ atQ l p q t V I = V ∧ mayE l.length ((lsAt l p q t V : Int) + (I : Int) * (V : Int)) V (atT l p q t V I) (atV l p q t V I) = 0 ∧
      (vecT t = true → atT l p q t V I = elemT t ∧ atV l p q t V I = V)) := by
  obtain ⟨_, h2, h3, hV, _, hL⟩ := ls_within h
  obtain ⟨_, _, hW, _⟩ := ls_ok h
  have htag := isl_tag hL
  have hb : lsAt l p q t V + I * V + V ≤ l.length := by
    have := Nat.mul_le_mul_right V (show I + 1 ≤ lsLen l p q t V by omega)
    rw [Nat.succ_mul] at this
    omega
  have hin : ¬ ((I : Int) < 0 ∨ (lsLen l p q t V : Int) ≤ I) := by omega
  have hE : atE l p q t V I = if tagT t = true then unE (tagB l p q t V I) else 0 := by
    unfold atE
    rw [if_neg (by rw [h]; decide), if_neg hin]
  have hIB : inB l.length ((lsAt l p q t V : Int) + (I : Int) * (V : Int)) V = true := by
    rw [inB_iff, ← Int.natCast_mul]
    omega
  have hmay : ∀ T X : Int, legalT T = true → isW X = true → mayE l.length ((lsAt l p q t V : Int) + (I : Int) * (V : Int)) V T X = 0 := by
    intro T X hT hX
    exact mayE_ok.2 ⟨formed_iff.2 ⟨hT, hW, hX⟩, hIB⟩
  have hPQ : atE l p q t V I = 0 → atP l p q t V I = (lsAt l p q t V : Int) + (I : Int) * (V : Int) ∧ atQ l p q t V I = V := by
    intro e
    unfold atP atQ
    rw [if_pos e, if_pos e]
    exact ⟨by rw [Int.toNat_natCast, Int.toNat_natCast, Int.natCast_mul], rfl⟩
  cases hv : vecT t with
  | true =>
    rw [hv] at htag
    rw [htag] at hE
    replace hE : atE l p q t V I = 0 := hE
    have hT : atT l p q t V I = elemT t := by unfold atT; rw [if_pos hE, htag]; rfl
    have hX : atV l p q t V I = V := by unfold atV; rw [if_pos hE, htag]; rfl
    refine .inr ⟨hE, (hPQ hE).1, (hPQ hE).2, ?_, fun _ => ⟨hT, hX⟩⟩
    rw [hT, hX]
    exact hmay _ _ (vec_elem hv) hW
  | false =>
    rw [hv] at htag
    rw [htag] at hE
    replace hE : atE l p q t V I = unE (tagB l p q t V I) := hE
    by_cases hu : unE (tagB l p q t V I) = 0
    · have h0 := hE.trans hu
      obtain ⟨g1, g2⟩ := unw_isW hu
      have hT : atT l p q t V I = unT (tagB l p q t V I) := by unfold atT; rw [if_pos h0, htag]; rfl
      have hX : atV l p q t V I = unW (tagB l p q t V I) := by unfold atV; rw [if_pos h0, htag]; rfl
      refine .inr ⟨h0, (hPQ h0).1, (hPQ h0).2, ?_, fun e => by cases e⟩
      rw [hT, hX]
      exact hmay _ _ g1 g2
    · refine .inl ⟨?_, rfl⟩
      rw [hE]
      unfold unE at hu ⊢
      split
      · rename_i hl; rw [if_pos hl] at hu; exact absurd rfl hu
      · rfl
theorem at_none {l : List UInt8} {p q t v i er : Int} (h : atE l p q t v i = er) (hne : er ≠ 0) : atP l p q t v i = 0 ∧ atQ l p q t v i = 0 ∧ atT l p q t v i = 0 ∧ atV l p q t v i = 0 := by
  unfold atP atQ atT atV
  rw [h, if_neg hne, if_neg hne, if_neg hne, if_neg hne]
  exact ⟨rfl, rfl, rfl, rfl⟩
theorem at_out {l : List UInt8} {p q t v i : Int} (h : lsE l p q t v = 0) (hi : i < 0 ∨ (lsLen l p q t v : Int) ≤ i) : atE l p q t v i = 6 := by
  unfold atE
  rw [if_neg (by rw [h]; decide), if_pos hi]
end Go.Proofs.Ytaigofpipoimkaa
