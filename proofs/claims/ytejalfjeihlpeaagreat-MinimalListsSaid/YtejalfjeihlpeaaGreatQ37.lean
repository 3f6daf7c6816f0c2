/-
  Bytes before a document whose number is a multiple of 8, in plain terms: what is read is the same, places move.
-/
import Derived.Test.YtejalfjeihlpeaaGreatQ23
namespace Go.Proofs.YtejalfjeihlpeaaGreat
open Go.RowKit Go.Acc
theorem drop_pre (pre l : List UInt8) (i : Nat) : (pre ++ l).drop (pre.length + i) = l.drop i := by
  induction pre with
  | nil => simp
  | cons x p ih =>
    rw [List.cons_append, List.length_cons, Nat.add_right_comm]
    exact ih
theorem getD_pre (pre l : List UInt8) (i : Nat) (d : UInt8) : (pre ++ l).getD (pre.length + i) d = l.getD i d := by
  rw [List.getD_eq_getElem?_getD, List.getD_eq_getElem?_getD, List.getElem?_append_right (by omega), Nat.add_sub_cancel_left]
section
variable {pre l : List UInt8} {p q t v : Int}
theorem loadU_pre {a w : Int} (ha : 0 ≤ a) : loadU (pre ++ l) (a + pre.length) w = loadU l a w := by
  unfold loadU
  have e : (a + (pre.length : Int)).toNat = pre.length + a.toNat := by omega
  by_cases h : isW w = true ∧ 0 ≤ a ∧ a + w ≤ l.length
  · rw [if_pos h, if_pos ⟨h.1, by omega, by rw [List.length_append]; omega⟩, e, drop_pre]
  · rw [if_neg h, if_neg]
    rintro ⟨h1, h2, h3⟩
    rw [List.length_append] at h3
    exact h ⟨h1, ha, by omega⟩
theorem loadI_pre {a w : Int} (ha : 0 ≤ a) : loadI (pre ++ l) (a + pre.length) w = loadI l a w := by
  unfold loadI
  rw [loadU_pre ha]
  by_cases h : isW w = true ∧ 0 ≤ a ∧ a + w ≤ l.length
  · rw [if_pos h, if_pos ⟨h.1, by omega, by rw [List.length_append]; omega⟩]
  · rw [if_neg h, if_neg]
    rintro ⟨h1, h2, h3⟩
    rw [List.length_append] at h3
    exact h ⟨h1, ha, by omega⟩
theorem may_pre (h : mayE l.length p q t v = 0) : mayE (pre ++ l).length (p + pre.length) q t v = 0 := by
  obtain ⟨h1, h2⟩ := mayE_ok.1 h
  have h2 := inB_iff.1 h2
  exact mayE_ok.2 ⟨h1, inB_iff.2 ⟨by omega, h2.2.1, by rw [List.length_append]; omega⟩⟩
theorem may_tgt (h : tgtE l p q t v = 0) : mayE l.length p q t v = 0 ∧ inlineT t = false ∧ (loadU l p q : Int) ≤ p ∧ 0 ≤ p ∧ p + q ≤ l.length ∧ isW q = true ∧ isW v = true := by
  unfold tgtE at h
  split at h
  · rename_i hm
    split at h
    · cases h
    · rename_i hi
      split at h
      · cases h
      · rename_i hu
        obtain ⟨h1, h2⟩ := mayE_ok.1 hm
        have h1 := formed_iff.1 h1
        have h2 := inB_iff.1 h2
        exact ⟨hm, by simpa using hi, by omega, h2.1, h2.2.2, h1.2.1, h1.2.2⟩
  · contradiction
theorem tgt_pre (h : tgtE l p q t v = 0) : tgtE (pre ++ l) (p + pre.length) q t v = 0 ∧ tgt (pre ++ l) (p + pre.length) q t v = tgt l p q t v + pre.length := by
  obtain ⟨hm, hi, hu, hp, _⟩ := may_tgt h
  have hm' := may_pre (pre := pre) hm
  have hl := loadU_pre (pre := pre) (l := l) (w := q) hp
  have hn : ¬ p + (pre.length : Int) < (loadU (pre ++ l) (p + pre.length) q : Int) := by rw [hl]; omega
  refine ⟨tgtE_ok hm' hi hn, ?_⟩
  rw [tgt_ok hm' hi hn, tgt_ok hm hi (by omega), hl]
  omega
theorem mod_pre {a k v : Int} (hv : isW v = true) (hk : k % 8 = 0) : (a + k) % v = a % v := by
  rcases isW_iff.1 hv with rfl | rfl | rfl | rfl <;> omega
theorem ls_parts (h : lsE l p q t v = 0) : mayE l.length p q t v = 0 ∧ isL t = true ∧ tgtE l p q t v = 0 ∧ tgt l p q t v % v = 0 ∧ aheadT t * v.toNat ≤ (tgt l p q t v).toNat ∧ (tgt l p q t v).toNat + lsN l p q t v * lsX t v ≤ l.length := by
  unfold lsE at h
  split at h
  · contradiction
  rename_i g1
  split at h
  · cases h
  rename_i g2
  split at h
  · contradiction
  rename_i g3
  split at h
  · cases h
  rename_i g4
  split at h
  · cases h
  rename_i g5
  split at h
  · cases h
  rename_i g6
  exact ⟨Decidable.of_not_not g1, by simpa using g2, Decidable.of_not_not g3, Decidable.of_not_not g4, Nat.le_of_not_lt g5, Nat.le_of_not_lt g6⟩
theorem ls_zero0 (h1 : mayE l.length p q t v = 0) (h2 : isL t = true) (h3 : tgtE l p q t v = 0) (h4 : tgt l p q t v % v = 0) (h5 : aheadT t * v.toNat ≤ (tgt l p q t v).toNat) (h6 : (tgt l p q t v).toNat + lsN l p q t v * lsX t v ≤ l.length) : lsE l p q t v = 0 := by
  unfold lsE
  rw [if_neg (by rw [h1]; decide), if_neg (by rw [h2]; decide), if_neg (by rw [h3]; decide), if_neg (by rw [h4]; decide), if_neg (by omega), if_neg (by omega)]
theorem ahead_one {t : Int} (h : ¬ 0 < manyT t) : 1 ≤ aheadT t := by
  unfold aheadT
  rw [if_neg h]
  split <;> omega
theorem ls_pre (hk : pre.length % 8 = 0) (h : lsE l p q t v = 0) : lsE (pre ++ l) (p + pre.length) q t v = 0 ∧ lsFrom (pre ++ l) (p + pre.length) q t v = lsFrom l p q t v + pre.length ∧ lsAt (pre ++ l) (p + pre.length) q t v = lsAt l p q t v + pre.length ∧ lsLen (pre ++ l) (p + pre.length) q t v = lsLen l p q t v := by
  obtain ⟨g1, g2, g3, g4, g5, g6⟩ := ls_parts h
  obtain ⟨e1, e2⟩ := tgt_pre (pre := pre) g3
  obtain ⟨_, _, hu, hp, _, _, hW⟩ := may_tgt g3
  have h0 := (tgt_rl g3).1
  have hv := isW_iff.1 hW
  have hN : lsN (pre ++ l) (p + pre.length) q t v = lsN l p q t v := by
    unfold lsN
    by_cases hm : 0 < manyT t
    · rw [if_pos hm, if_pos hm]
    · rw [if_neg hm, if_neg hm, e2]
      have ha := ahead_one hm
      have hge : v.toNat ≤ aheadT t * v.toNat := Nat.le_mul_of_pos_left _ (by omega)
      have : tgt l p q t v + (pre.length : Int) - v = (tgt l p q t v - v) + pre.length := by omega
      rw [this]
      exact loadU_pre (by omega)
  have hT : (tgt (pre ++ l) (p + pre.length) q t v).toNat = (tgt l p q t v).toNat + pre.length := by rw [e2]; omega
  have hE : lsE (pre ++ l) (p + pre.length) q t v = 0 := by
    refine ls_zero0 (may_pre g1) g2 e1 ?_ (by rw [hT]; omega) (by rw [hT, hN, List.length_append]; omega)
    rw [e2, mod_pre hW (by omega)]
    exact g4
  refine ⟨hE, ?_, ?_, ?_⟩
  · unfold lsFrom
    rw [if_pos hE, if_pos h, hT]
    omega
  · unfold lsAt
    rw [if_pos hE, if_pos h, hT]
  · unfold lsLen
    rw [if_pos hE, if_pos h, hN]
end
/-- A reference, moved. -/
def Rq.sh (r : Rq) (k : Nat) : Rq := ⟨r.p + k, r.q, r.t, r.v⟩
def sh3 (k : Nat) (y : P3) : P3 := (y.1 + k, y.2)
theorem sh3_inj {k : Nat} {x y : P3} (h : sh3 k x = sh3 k y) : x = y := by
  obtain ⟨a, b⟩ := x
  obtain ⟨c, d⟩ := y
  unfold sh3 at h
  simp only [Prod.mk.injEq] at h ⊢
  exact ⟨by omega, h.2⟩
theorem sh3_mem {k : Nat} {y : P3} {L : List P3} : sh3 k y ∈ L.map (sh3 k) ↔ y ∈ L := by
  constructor
  · intro h
    obtain ⟨x, hx, e⟩ := List.mem_map.1 h
    exact sh3_inj e ▸ hx
  · exact fun h => List.mem_map.2 ⟨y, h, rfl⟩
section
variable {pre l : List UInt8} {r : Rq}
theorem spot_pre (h : tgtE l r.p r.q r.t r.v = 0) : cvSpot (pre ++ l) (r.sh pre.length) = sh3 pre.length (cvSpot l r) := by
  unfold cvSpot sh3 Rq.sh
  simp only [(tgt_pre h).2]
theorem tagb_pre (hk : pre.length % 8 = 0) (h : lsE l r.p r.q r.t r.v = 0) (i : Int) : tagB (pre ++ l) (r.p + pre.length) r.q r.t r.v i = tagB l r.p r.q r.t r.v i := by
  obtain ⟨_, _, e2, e3⟩ := ls_pre hk h
  unfold tagB
  rw [e2, e3, show lsAt l r.p r.q r.t r.v + pre.length + lsLen l r.p r.q r.t r.v * r.v.toNat + i.toNat = pre.length + (lsAt l r.p r.q r.t r.v + lsLen l r.p r.q r.t r.v * r.v.toNat + i.toNat) by omega]
  exact getD_pre _ _ _ _
theorem ate_pre (hk : pre.length % 8 = 0) (h : lsE l r.p r.q r.t r.v = 0) (i : Int) : atE (pre ++ l) (r.p + pre.length) r.q r.t r.v i = atE l r.p r.q r.t r.v i := by
  obtain ⟨e0, _, e2, e3⟩ := ls_pre hk h
  unfold atE
  rw [tagb_pre hk h, e3, e0, h]
theorem at_pre (hk : pre.length % 8 = 0) (h : lsE l r.p r.q r.t r.v = 0) {i : Nat} (ha : atE l r.p r.q r.t r.v i = 0) : cvAt (pre ++ l) (r.sh pre.length) i = (cvAt l r i).sh pre.length := by
  obtain ⟨_, _, e2, e3⟩ := ls_pre hk h
  have ha' := ate_pre hk h (i : Int)
  rw [ha] at ha'
  unfold cvAt Rq.sh atP atQ atT atV
  simp only [ha', ha, if_true, e2, tagb_pre hk h, Rq.mk.injEq, and_true]
  omega
theorem ky_pre (hk : pre.length % 8 = 0) (h : kyE l r.p r.q r.t r.v = 0) : kyE (pre ++ l) (r.p + pre.length) r.q r.t r.v = 0 ∧ cvKey (pre ++ l) (r.sh pre.length) = (cvKey l r).sh pre.length := by
  have h0 := h
  unfold kyE at h
  split at h
  · contradiction
  rename_i g1
  split at h
  · cases h
  rename_i g2
  split at h
  · contradiction
  rename_i g3
  split at h
  · cases h
  rename_i g4
  have g3 := Decidable.of_not_not g3
  have g1 := Decidable.of_not_not g1
  obtain ⟨e0, e1, e2, e3⟩ := ls_pre hk g3
  have hv := isW_iff.1 (formed_iff.1 (mayE_ok.1 g1).1).2.2
  have hU : kyU (pre ++ l) (r.p + pre.length) r.q r.t r.v = kyU l r.p r.q r.t r.v := by
    unfold kyU
    rw [e1, show (((lsFrom l r.p r.q r.t r.v + pre.length : Nat) : Int) + r.v) = ((lsFrom l r.p r.q r.t r.v : Int) + r.v) + pre.length by omega]
    exact loadU_pre (by omega)
  have hE : kyE (pre ++ l) (r.p + pre.length) r.q r.t r.v = 0 := by
    unfold kyE
    rw [may_pre g1, if_neg (by decide), if_neg g2, e0, if_neg (by decide), hU, if_neg g4]
  refine ⟨hE, ?_⟩
  unfold cvKey Rq.sh kyP kyQ kyT kyV
  simp only [hE, h0, if_true, e1, hU, Rq.mk.injEq, and_true]
  omega
theorem plc_pre (hk : pre.length % 8 = 0) (h : plcE l r.p r.q r.t r.v = 0) : plcE (pre ++ l) (r.p + pre.length) r.q r.t r.v = 0 ∧ plcA (pre ++ l) (r.p + pre.length) r.q r.t r.v = plcA l r.p r.q r.t r.v + pre.length ∧ plcW (pre ++ l) (r.p + pre.length) r.q r.t r.v = plcW l r.p r.q r.t r.v ∧ 0 ≤ plcA l r.p r.q r.t r.v := by
  have h0 := h
  unfold plcE at h
  split at h
  · contradiction
  rename_i g1
  have g1 := Decidable.of_not_not g1
  have hm := inB_iff.1 (mayE_ok.1 g1).2
  have hW := (formed_iff.1 (mayE_ok.1 g1).1).2.2
  split at h
  · cases h
  rename_i g2
  split at h
  · rename_i g3
    have hE : plcE (pre ++ l) (r.p + pre.length) r.q r.t r.v = 0 := by
      unfold plcE
      rw [may_pre g1, if_neg (by decide), if_neg g2, if_pos g3]
    refine ⟨hE, ?_, ?_, ?_⟩
    · unfold plcA; rw [if_pos hE, if_pos h0, if_pos g3, if_pos g3]
    · unfold plcW; rw [if_pos hE, if_pos h0, if_pos g3]
    · unfold plcA; rw [if_pos h0, if_pos g3]; exact hm.1
  rename_i g3
  split at h
  · contradiction
  rename_i g4
  have g4 := Decidable.of_not_not g4
  split at h
  · cases h
  rename_i g5
  split at h
  · cases h
  rename_i g6
  obtain ⟨e1, e2⟩ := tgt_pre (pre := pre) g4
  have g6 : inB l.length (tgt l r.p r.q r.t r.v) r.v = true := by simpa using g6
  have g7 := inB_iff.1 g6
  have hE : plcE (pre ++ l) (r.p + pre.length) r.q r.t r.v = 0 := by
    unfold plcE
    rw [may_pre g1, if_neg (by decide), if_neg g2, if_neg g3, e1, if_neg (by decide), e2, mod_pre hW (by omega), if_neg g5, if_neg]
    rw [inB_iff.2 ⟨by omega, g7.2.1, by rw [List.length_append]; omega⟩]
    decide
  refine ⟨hE, ?_, ?_, ?_⟩
  · unfold plcA; rw [if_pos hE, if_pos h0, if_neg g3, if_neg g3, e2]
  · unfold plcW; rw [if_pos hE, if_pos h0, if_neg g3]
  · unfold plcA; rw [if_pos h0, if_neg g3]; exact g7.1
theorem zero_pre (a : Nat) : zeroAt (pre ++ l) (pre.length + a) = pre.length + zeroAt l a := by
  unfold zeroAt
  rw [drop_pre]
  omega
theorem cnt_pre {a v k : Nat} (hv : isW (v : Int) = true) (hk : pre.length % 8 = 0) (h : cntE l a v k = 0) : cntE (pre ++ l) (pre.length + a) v k = 0 ∧ cntL (pre ++ l) (pre.length + a) v = cntL l a v := by
  unfold cntE at h
  split at h
  · cases h
  rename_i g1
  split at h
  · cases h
  rename_i g2
  split at h
  · cases h
  rename_i g3
  split at h
  · rename_i g4
    have hv' := isW_iff.1 hv
    have hU : loadU (pre ++ l) (((pre.length + a : Nat) : Int) - v) v = loadU l ((a : Int) - v) v := by
      rw [show ((pre.length + a : Nat) : Int) - v = ((a : Int) - v) + pre.length by omega]
      exact loadU_pre (by omega)
    constructor
    · unfold cntE
      rw [if_neg, if_neg (by omega), hU, if_neg (by rw [List.length_append]; omega), Nat.add_assoc, drop_pre, if_pos g4]
      have hv2 : v = 1 ∨ v = 2 ∨ v = 4 ∨ v = 8 := by omega
      rcases hv2 with rfl | rfl | rfl | rfl <;> omega
    · unfold cntL
      rw [hU, drop_pre]
  · cases h
theorem fnd_pre (hk : pre.length % 8 = 0) {ts : List Nat} (h : fndE l r.p r.q r.t r.v ts = 0) : fndE (pre ++ l) (r.p + pre.length) r.q r.t r.v ts = 0 ∧ fndL (pre ++ l) (r.p + pre.length) r.q r.t r.v ts = fndL l r.p r.q r.t r.v ts := by
  have h0 := h
  unfold fndE at h
  split at h
  · contradiction
  rename_i g1
  have g1 := Decidable.of_not_not g1
  split at h
  · cases h
  rename_i g2
  split at h
  · contradiction
  rename_i g3
  have g3 := Decidable.of_not_not g3
  obtain ⟨e1, e2⟩ := tgt_pre (pre := pre) g3
  have hr := (tgt_rl g3).1
  have hT : (tgt (pre ++ l) (r.p + pre.length) r.q r.t r.v).toNat = pre.length + (tgt l r.p r.q r.t r.v).toNat := by rw [e2]; omega
  split at h
  · rename_i g4
    have hz : keyE (pre ++ l) (pre.length + (tgt l r.p r.q r.t r.v).toNat) = 0 := by
      unfold keyE at h ⊢
      rw [zero_pre, List.length_append]
      split at h
      · rw [if_pos (by omega)]
      · cases h
    have hE : fndE (pre ++ l) (r.p + pre.length) r.q r.t r.v ts = 0 := by
      unfold fndE
      rw [may_pre g1, if_neg (by decide), if_neg g2, e1, if_neg (by decide), if_pos g4, hT]
      exact hz
    refine ⟨hE, ?_⟩
    unfold fndL
    rw [if_pos hE, if_pos h0, if_pos g4, if_pos g4, hT]
    unfold keyL
    rw [zero_pre, drop_pre, Nat.add_sub_add_left]
  · rename_i g4
    have hW := (formed_iff.1 (mayE_ok.1 g1).1).2.2
    have hv := isW_iff.1 hW
    obtain ⟨c1, c2⟩ := cnt_pre (pre := pre) (v := r.v.toNat) (by rw [Int.toNat_of_nonneg (by omega)]; exact hW) hk h
    have hE : fndE (pre ++ l) (r.p + pre.length) r.q r.t r.v ts = 0 := by
      unfold fndE
      rw [may_pre g1, if_neg (by decide), if_neg g2, e1, if_neg (by decide), if_neg g4, hT]
      exact c1
    refine ⟨hE, ?_⟩
    unfold fndL
    rw [if_pos hE, if_pos h0, if_neg g4, if_neg g4, hT, c2]
end
end Go.Proofs.YtejalfjeihlpeaaGreat
