/-
  What a text depends on, in plain terms: bytes that agree on the reference, the length, the contents and the byte behind.
-/
import Derived.Test.YtdoagpophikgjaaTextH
namespace Go.Proofs.Ytdoagpophikgjaa
open Go.RowKit Go.Acc
/-- l and m agree from place a on, before place b. -/
def Agree (l m : List UInt8) (a b : Nat) : Prop := ∀ i, a ≤ i → i < b → l[i]? = m[i]?
theorem Agree.mono {l m : List UInt8} {a b a' b' : Nat} (h : Agree l m a b) (h1 : a ≤ a') (h2 : b' ≤ b) : Agree l m a' b' := fun i hi hj => h i (by omega) (by omega)
theorem Agree.cut {l m : List UInt8} {a b : Nat} (h : Agree l m a b) (k : Nat) (hk : a + k ≤ b) : (l.drop a).take k = (m.drop a).take k := by
  apply List.ext_getElem?
  intro i
  rw [List.getElem?_take, List.getElem?_take]
  split
  · rw [List.getElem?_drop, List.getElem?_drop]
    exact h _ (by omega) (by omega)
  · rfl
theorem loadU_agree {l m : List UInt8} {p q : Int} (hl : m.length = l.length) (h : Agree l m p.toNat (p + q).toNat) (hq : 0 ≤ q) (hp : 0 ≤ p) : loadU m p q = loadU l p q := by
  unfold loadU
  rw [hl, h.cut q.toNat (by omega)]
theorem zeroAt_agree {l m : List UInt8} {a : Nat} (hl : m.length = l.length) (ha : a ≤ l.length) (hz : zeroAt l a < l.length) (h : Agree l m a (zeroAt l a + 1)) : zeroAt m a = zeroAt l a := by
  have hb := zeroAt_le ha
  have hm := zeroAt_le (l := m) (k := a) (by omega)
  have h1 : m[zeroAt l a]'(by omega) = 0 := by
    have e := h (zeroAt l a) hb.1 (by omega)
    rw [List.getElem?_eq_getElem hz, List.getElem?_eq_getElem (by omega)] at e
    injection e with e
    rw [← e]
    exact zeroAt_get hz
  by_cases hlt : zeroAt m a < zeroAt l a
  · exfalso
    have h2 : m[zeroAt m a]'(by omega) = 0 := zeroAt_get (by omega)
    have e := h (zeroAt m a) hm.1 (by omega)
    rw [List.getElem?_eq_getElem (by omega), List.getElem?_eq_getElem (by omega)] at e
    injection e with e
    exact zeroAt_lt (l := l) (k := a) hm.1 hlt (by omega) (e.trans h2)
  · by_cases hgt : zeroAt l a < zeroAt m a
    · exact absurd h1 (zeroAt_lt hb.1 hgt (by omega))
    · omega
theorem keyL_agree {l m : List UInt8} {a : Nat} (hl : m.length = l.length) (ha : a ≤ l.length) (hz : zeroAt l a < l.length) (h : Agree l m a (zeroAt l a + 1)) : keyL m a = keyL l a ∧ keyE m a = keyE l a := by
  have e := zeroAt_agree hl ha hz h
  have hb := zeroAt_le ha
  unfold keyL keyE
  rw [e, hl]
  exact ⟨(h.cut _ (by omega)).symm, rfl⟩
theorem cntL_agree {l m : List UInt8} {a v k : Nat} (hl : m.length = l.length) (hv : v ≤ a) (h : Agree l m (a - v) (min (a + loadU l ((a : Int) - v) v + 1) l.length)) (hk : k ≤ 1) (hal : a + loadU l ((a : Int) - v) v + k ≤ l.length) :
    cntL m a v = cntL l a v ∧ cntE m a v k = cntE l a v k := by
  obtain ⟨u, hu⟩ : ∃ u, loadU l ((a : Int) - v) v = u := ⟨_, rfl⟩
  rw [hu] at h hal
  have e : loadU m ((a : Int) - v) v = u := by
    rw [loadU_agree hl (h.mono (by omega) (by omega)) (by omega) (by omega)]
    exact hu
  unfold cntL cntE
  rw [e, hu, hl]
  have h1 : (m.drop a).take u = (l.drop a).take u := ((h.mono (a' := a) (b' := a + u) (by omega) (by omega)).cut u (Nat.le_refl _)).symm
  have h2 : (m.drop (a + u)).take k = (l.drop (a + u)).take k := ((h.mono (a' := a + u) (b' := a + u + k) (by omega) (by omega)).cut k (Nat.le_refl _)).symm
  rw [h1, h2]
  exact ⟨rfl, rfl⟩
theorem tgt_agree {l m : List UInt8} {p q t v : Int} (hl : m.length = l.length) (hm : mayE l.length p q t v = 0) (h : Agree l m p.toNat (p + q).toNat) : tgtE m p q t v = tgtE l p q t v ∧ tgt m p q t v = tgt l p q t v := by
  obtain ⟨h1, h2⟩ := mayE_ok.1 hm
  have h2 := inB_iff.1 h2
  have e := loadU_agree hl h h2.2.1 h2.1
  unfold tgt tgtE
  rw [hl, e]
  exact ⟨rfl, rfl⟩
theorem fnd_parts {l : List UInt8} {p q t v : Int} {ts : List Nat} (h : fndE l p q t v ts = 0) : mayE l.length p q t v = 0 ∧ isIn ts t = true ∧ tgtE l p q t v = 0 ∧ (if t = 4 then keyE l (tgt l p q t v).toNat else cntE l (tgt l p q t v).toNat v.toNat (if t = 5 then 1 else 0)) = 0 := by
  unfold fndE at h
  split at h
  · rename_i h1; exact absurd h h1
  · rename_i h1
    split at h
    · cases h
    · rename_i h2
      split at h
      · rename_i h3; exact absurd h h3
      · rename_i h3
        refine ⟨by simpa using h1, by simpa using h2, by simpa using h3, ?_⟩
        split at h
        · rename_i h4; rw [if_pos h4]; exact h
        · rename_i h4; rw [if_neg h4]; exact h
/-- The stretch from the length (of a key: the contents) to the byte behind. -/
def ownLo (l : List UInt8) (p q t v : Int) : Nat := if t = 4 then (tgt l p q t v).toNat else (tgt l p q t v).toNat - v.toNat
def ownHi (l : List UInt8) (p q t v : Int) : Nat := min ((tgt l p q t v).toNat + (fndL l p q t v [4, 5, 25]).length + 1) l.length
theorem own_text {l m : List UInt8} {p q t v : Int} (h : fndE l p q t v [4, 5, 25] = 0) (hl : m.length = l.length) (h1 : Agree l m p.toNat (p + q).toNat) (h2 : Agree l m (ownLo l p q t v) (ownHi l p q t v)) (ts : List Nat) :
    fndE m p q t v ts = fndE l p q t v ts ∧ fndA m p q t v ts = fndA l p q t v ts ∧ fndL m p q t v ts = fndL l p q t v ts := by
  obtain ⟨hm, hin, ht, hc⟩ := fnd_parts h
  obtain ⟨e1, e2⟩ := tgt_agree hl hm h1
  have hr := tgt_rng ht
  have hL : fndL l p q t v [4, 5, 25] = if t = 4 then keyL l (tgt l p q t v).toNat else cntL l (tgt l p q t v).toNat v.toNat := if_pos h
  unfold ownHi at h2
  unfold ownLo at h2
  rw [hL] at h2
  obtain ⟨a, ha⟩ : ∃ a : Nat, tgt l p q t v = a := ⟨(tgt l p q t v).toNat, by omega⟩
  rw [ha] at h2 hr hc
  rw [Int.toNat_natCast] at h2 hc
  have key : ∀ ts, (fndE m p q t v ts = fndE l p q t v ts) ∧ (t = 4 → keyL m a = keyL l a) ∧ (t ≠ 4 → cntL m a v.toNat = cntL l a v.toNat) := by
    intro ts
    by_cases h4 : t = 4
    · rw [if_pos h4] at hc h2
      rw [if_pos h4, keyL_len (by omega)] at h2
      have hz : zeroAt l a < l.length := by
        unfold keyE at hc
        split at hc
        · assumption
        · cases hc
      have hb := zeroAt_le (l := l) (k := a) (by omega)
      obtain ⟨k1, k2⟩ := keyL_agree hl (by omega) hz (h2.mono (by omega) (by omega))
      refine ⟨?_, fun _ => k1, fun h => absurd h4 h⟩
      unfold fndE
      rw [hl, e1, e2, ha, Int.toNat_natCast, if_pos h4, if_pos h4, k2]
    · rw [if_neg h4] at hc h2
      rw [if_neg h4] at h2
      rcases cnt_cases l a v.toNat (if t = 5 then 1 else 0) _ rfl with ⟨_, e⟩ | ⟨_, _, e⟩ | ⟨_, _, _, e⟩ | ⟨g1, g2, g3, g4, e⟩ | ⟨_, _, _, _, e⟩
      · rw [e] at hc; cases hc
      · rw [e] at hc; cases hc
      · rw [e] at hc; cases hc
      · rw [cntL_len rfl (by omega)] at h2
        obtain ⟨k1, k2⟩ := cntL_agree hl g2 h2 (by split <;> omega) g3
        refine ⟨?_, fun h => absurd h h4, fun _ => k1⟩
        unfold fndE
        rw [hl, e1, e2, ha, Int.toNat_natCast, if_neg h4, if_neg h4, k2]
      · rw [e] at hc; cases hc
  obtain ⟨k1, k2, k3⟩ := key ts
  unfold fndA fndL
  rw [k1, e2, ha, Int.toNat_natCast]
  refine ⟨rfl, rfl, ?_⟩
  split
  · split
    · rename_i h4; exact k2 h4
    · rename_i h4; exact k3 h4
  · rfl
/-- A stretch of l laid over m. -/
def over (l m : List UInt8) (a b : Nat) : List UInt8 := m.take a ++ (l.drop a).take (b - a) ++ m.drop b
theorem over_len {l m : List UInt8} {a b : Nat} (hl : m.length = l.length) (h1 : a ≤ b) (h2 : b ≤ l.length) : (over l m a b).length = l.length := by
  unfold over; simp; omega
theorem over_get {l m : List UInt8} {a b : Nat} (hl : m.length = l.length) (h1 : a ≤ b) (h2 : b ≤ l.length) (i : Nat) : (over l m a b)[i]? = if a ≤ i ∧ i < b then l[i]? else m[i]? := by
  unfold over
  by_cases c1 : i < a
  · rw [if_neg (by omega), List.append_assoc, List.getElem?_append_left (by simp; omega), List.getElem?_take, if_pos c1]
  · by_cases c2 : i < b
    · rw [if_pos (by omega), List.append_assoc, List.getElem?_append_right (by simp; omega), List.getElem?_append_left (by simp; omega), List.getElem?_take, if_pos (by simp; omega), List.getElem?_drop]
      congr 1
      simp; omega
    · rw [if_neg (by omega), List.getElem?_append_right (by simp; omega), List.getElem?_drop]
      congr 1
      simp; omega
theorem over_agree {l m : List UInt8} {a b : Nat} (hl : m.length = l.length) (h1 : a ≤ b) (h2 : b ≤ l.length) : Agree l (over l m a b) a b := fun i hi hj => by
  rw [over_get hl h1 h2, if_pos ⟨hi, hj⟩]
theorem over_keeps {l m : List UInt8} {a b c d : Nat} (hl : m.length = l.length) (h1 : a ≤ b) (h2 : b ≤ l.length) (h : Agree l m c d) : Agree l (over l m a b) c d := fun i hi hj => by
  rw [over_get hl h1 h2]
  split
  · rfl
  · exact h i hi hj
end Go.Proofs.Ytdoagpophikgjaa
