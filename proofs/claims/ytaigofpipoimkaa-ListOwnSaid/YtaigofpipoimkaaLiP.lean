/-
  Package list: a vector depends on the bytes of its reference and of its span, in plain terms.
-/
import Derived.Test.YtaigofpipoimkaaLiN
import Derived.Test.YtaigofpipoimkaaAgree
namespace Go.Proofs.Ytaigofpipoimkaa
open Go.RowKit Go.Acc
theorem tgt_agree {l m : List UInt8} {p q t v : Int} (hl : m.length = l.length) (hm : mayE l.length p q t v = 0) (h : Agree l m p.toNat (p + q).toNat) : tgtE m p q t v = tgtE l p q t v ∧ tgt m p q t v = tgt l p q t v := by
  obtain ⟨h1, h2⟩ := mayE_ok.1 hm
  have h2 := inB_iff.1 h2
  have e := loadU_agree hl h h2.2.1 h2.1
  unfold tgt tgtE
  rw [hl, e]
  exact ⟨rfl, rfl⟩
/-- The same vector in both. -/
def OwnLs (l m : List UInt8) (p q t v : Int) : Prop :=
  lsE m p q t v = lsE l p q t v ∧ lsFrom m p q t v = lsFrom l p q t v ∧ lsAt m p q t v = lsAt l p q t v ∧ lsTo m p q t v = lsTo l p q t v ∧ lsLen m p q t v = lsLen l p q t v ∧
  ∀ I : Nat, I < lsLen l p q t v → atP m p q t v I = atP l p q t v I ∧ atQ m p q t v I = atQ l p q t v I ∧ atT m p q t v I = atT l p q t v I ∧ atV m p q t v I = atV l p q t v I ∧ atE m p q t v I = atE l p q t v I
theorem ahead_pos {t : Int} (h : ¬ 0 < manyT t) : 1 ≤ aheadT t := by
  unfold aheadT
  rw [if_neg h]
  split <;> omega
theorem own_ls {l m : List UInt8} {p q t v : Int} (h : lsE l p q t v = 0) (hl : m.length = l.length) (h1 : Agree l m p.toNat (p + q).toNat) (h2 : Agree l m (lsFrom l p q t v) (lsTo l p q t v)) : OwnLs l m p q t v := by
  have hm : mayE l.length p q t v = 0 := by
    rcases ls_cases l p q t v with ⟨g, e⟩ | ⟨g, _⟩
    · rw [e] at h; exact absurd h g
    · exact g
  obtain ⟨e1, e2⟩ := tgt_agree hl hm h1
  have hv : 0 ≤ v := by
    obtain ⟨_, _, hW, _⟩ := ls_ok h
    have := isW_iff.1 hW
    omega
  obtain ⟨V, rfl⟩ : ∃ V : Nat, v = V := ⟨v.toNat, by omega⟩
  have ht : 0 ≤ tgt l p q t V ∧ lsFrom l p q t V = (tgt l p q t V).toNat - aheadT t * V ∧ lsAt l p q t V = (tgt l p q t V).toNat ∧ aheadT t * V ≤ (tgt l p q t V).toNat := by
    rcases ls_cases l p q t V with ⟨_, e⟩ | ⟨_, ⟨_, e⟩ | ⟨_, ⟨_, e⟩ | ⟨h3, ⟨_, e⟩ | ⟨_, _, e⟩ | ⟨_, _, _, e⟩ | ⟨_, h5, _, _⟩⟩⟩⟩
    · rw [e] at h; exact absurd h (by assumption)
    · rw [e] at h; cases h
    · rw [e] at h; exact absurd h (by assumption)
    · rw [e] at h; cases h
    · rw [e] at h; cases h
    · rw [e] at h; cases h
    · rw [Int.toNat_natCast] at h5
      refine ⟨(tgt_rl h3).1, ?_, ?_, h5⟩
      · unfold lsFrom; rw [if_pos h, Int.toNat_natCast]
      · unfold lsAt; rw [if_pos h]
  obtain ⟨ht0, hF, hA, hah⟩ := ht
  obtain ⟨w1, w2, w3, w4, _, hL⟩ := ls_within h
  have e3 : lsN m p q t V = lsN l p q t V := by
    unfold lsN
    by_cases hmn : 0 < manyT t
    · rw [if_pos hmn, if_pos hmn]
    · rw [if_neg hmn, if_neg hmn, e2]
      have ha1 := ahead_pos hmn
      have hVa : V ≤ aheadT t * V := Nat.le_mul_of_pos_left _ (by omega)
      refine loadU_agree hl (h2.mono ?_ ?_) (by omega) (by omega)
      · omega
      · omega
  have e4 : lsE m p q t V = lsE l p q t V := by
    unfold lsE
    rw [hl, e1, e2, e3]
  have e5 : lsFrom m p q t V = lsFrom l p q t V := by unfold lsFrom; rw [e4, e2]
  have e6 : lsAt m p q t V = lsAt l p q t V := by unfold lsAt; rw [e4, e2]
  have e7 : lsTo m p q t V = lsTo l p q t V := by unfold lsTo; rw [e4, e2, e3]
  have e8 : lsLen m p q t V = lsLen l p q t V := by unfold lsLen; rw [e4, e3]
  refine ⟨e4, e5, e6, e7, e8, fun I hI => ?_⟩
  have hB : tagT t = true → tagB m p q t V I = tagB l p q t V I := by
    intro hT
    unfold tagB
    rw [e6, e8, Int.toNat_natCast, Int.toNat_natCast, List.getD_eq_getElem?_getD, List.getD_eq_getElem?_getD]
    have htg : tgs t = 1 := if_pos hT
    rw [htg, Nat.mul_one] at w2
    rw [h2 _ (by omega) (by omega)]
  have e9 : atE m p q t V I = atE l p q t V I := by
    unfold atE
    rw [e4, e8]
    cases hT : tagT t with
    | true => rw [hB hT]
    | false => rfl
  unfold atP atQ atT atV
  rw [e9, e6]
  cases hT : tagT t with
  | true => rw [hB hT]; exact ⟨rfl, rfl, rfl, rfl, rfl⟩
  | false => exact ⟨rfl, rfl, rfl, rfl, rfl⟩
end Go.Proofs.Ytaigofpipoimkaa
