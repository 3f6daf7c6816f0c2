/-
  The document of a number: what Finish needs, and what the readers of scalar find. No program in sight.
-/
import Derived.Test.YtjhigmgkmmjlfaaGreatQ23
namespace Go.Proofs.YtjhigmgkmmjlfaaGreat
open Go.RowKit Go.Acc
theorem sx_of {w : Nat} {n : Int} (hw : isW (w : Int) = true) (h : bWidthI n ≤ w) (h64 : -9223372036854775808 ≤ n ∧ n ≤ 9223372036854775807) : sx w (bits n % 2 ^ (8 * w)) = n := by
  unfold sx bits
  unfold bWidthI at h
  rcases w_cases hw with rfl | rfl | rfl | rfl
  · split at h
    · split <;> simp at * <;> omega
    · exfalso; (repeat' split at h) <;> omega
  · split at h
    · split <;> simp at * <;> omega
    · split at h
      · split <;> simp at * <;> omega
      · exfalso; (repeat' split at h) <;> omega
  · split at h
    · split <;> simp at * <;> omega
    · split at h
      · split <;> simp at * <;> omega
      · split at h
        · split <;> simp at * <;> omega
        · omega
  · split <;> simp at * <;> omega
theorem low_of {w u : Nat} (hw : isW (w : Int) = true) (h : bWidth u ≤ w) (hu : u < 18446744073709551616) : u % 2 ^ (8 * w) = u := by
  refine Nat.mod_eq_of_lt ?_
  exact bWidth_lt hw hu h
theorem least_own {v : Bv} (hi : inl v.t = true) (hw : isW (v.w : Int) = true) (a : Nat) : leastW (fitsV v a 0) = v.w := by
  have h : ∀ y, fitsV v a 0 y = decide (v.w ≤ y) := fun y => by unfold fitsV; rw [if_pos hi]
  unfold leastW
  rw [h, h, h, h]
  rcases w_cases hw with e | e | e | e <;> rw [e] <;> rfl
theorem finok_inl {v : Bv} (hi : inl v.t = true) (hl : legalT v.t = true) (hw : isW (v.w : Int) = true) : FinOk [] v v.w := by
  have he : elemN v.w (alignB v.w []).length v = v.n % 2 ^ (8 * v.w) := by unfold elemN; rw [if_pos hi]
  exact ⟨hl, hw, least_own hi hw _, hw, by rw [he]; exact fits_low _ _, by rw [he]; exact low_lt _ hw, (fun h => absurd hi (by rw [h]; decide)), by simp⟩
theorem align1 (l : List UInt8) : alignB 1 l = l := by
  unfold alignB padN
  simp [Nat.mod_one]
theorem finok_off {t wd x : Nat} (hi : inl t = false) (hl : legalT t = true) (hw : isW (wd : Int) = true) : FinOk (leBytes wd x) ⟨t, wd, 0⟩ 1 ∧ fitsV ⟨t, wd, 0⟩ (leBytes wd x).length 0 1 = true := by
  have h8 : wd ≤ 8 := by rcases w_cases hw with rfl | rfl | rfl | rfl <;> omega
  have hne : ¬ inl t = true := by rw [hi]; decide
  have hf : fitsV ⟨t, wd, 0⟩ (leBytes wd x).length 0 1 = true := by
    unfold fitsV
    rw [if_neg hne, leBytes_length]
    simp only [decide_eq_true_eq]
    refine ⟨Nat.zero_le _, ?_⟩
    have : upN wd 1 = wd := by unfold upN; simp
    rw [this]
    unfold bWidth
    rw [if_pos (by omega)]
    omega
  have he : elemN 1 (alignB 1 (leBytes wd x)).length ⟨t, wd, 0⟩ = wd := by unfold elemN; rw [if_neg hne, align1, leBytes_length]; rfl
  refine ⟨⟨hl, hw, by unfold leastW; rw [if_pos hf], by decide, ?_, ?_, fun _ => Nat.zero_le _, by rw [leBytes_length]; omega⟩, hf⟩
  · rw [he]; exact decide_eq_true (.inr (by simp; omega))
  · rw [he]; omega
/-- What the readers of scalar find at the root: no error, the sign, the magnitude; k the node's kind. -/
structure NumF (L : List UInt8) (k : Int) (neg : Bool) (mag : Nat) : Prop where
  root : rootE L = 0
  plc : plcE L (rootR L).1 (rootR L).2.1 (rootR L).2.2.1 (rootR L).2.2.2 = 0
  kind : kindT (rootR L).2.2.1 = k
  neg : scN L (rootR L).1 (rootR L).2.1 (rootR L).2.2.1 (rootR L).2.2.2 = neg
  mag : scU L (rootR L).1 (rootR L).2.1 (rootR L).2.2.1 (rootR L).2.2.2 = mag
theorem numf_inl {x : List UInt8} {v : Bv} {k : Int} {neg : Bool} {mag : Nat} (hx : x.length % 8 = 0) (hi : inl v.t = true) (hl : legalT v.t = true) (hw : isW (v.w : Int) = true) (hk : kindT v.t = k)
    (hn : ∀ l : List UInt8, ∀ a : Int, loadU l a v.w = v.n % 2 ^ (8 * v.w) → 0 ≤ a → a + v.w ≤ l.length → rdN l v.t a v.w = neg ∧ rdU l v.t a v.w = mag) : NumF (x ++ docB [] v v.w) k neg mag := by
  obtain ⟨h1, h2⟩ := root_doc (x := x) (b := []) hx hw hl hw
  have hi' : inlineT (v.t : Int) = true := hi
  have how : ownW v.w v = v.w := by unfold ownW; rw [if_pos hi]
  have hm := doc_may (x := x) (b := []) (v := v) hw hl hw
  rw [how] at h2 hm
  obtain ⟨L, hL⟩ : ∃ L, x ++ docB [] v v.w = L := ⟨_, rfl⟩
  obtain ⟨P, hP⟩ : ∃ P : Nat, x.length + (alignB v.w []).length = P := ⟨_, rfl⟩
  have he : elemN v.w (alignB v.w []).length v = v.n % 2 ^ (8 * v.w) := by unfold elemN; rw [if_pos hi]
  have hat : At L P (leBytes v.w (v.n % 2 ^ (8 * v.w))) := ⟨x ++ alignB v.w [], [bTag v.w v, UInt8.ofNat v.w], by rw [← hL, docB, he]; simp only [List.append_assoc], by rw [← hP]; simp⟩
  have hload : loadU L P v.w = v.n % 2 ^ (8 * v.w) := by rw [hat.load hw, leVal_leBytes, Nat.mod_mod]
  rw [hL, hP] at h2 hm
  rw [hL] at h1 ⊢
  have hp : plcE L P v.w v.t v.w = 0 := by
    unfold plcE
    rw [if_neg (by rw [hm]; decide), if_neg (by rw [inline_rd hi]; decide), if_pos hi']
  have hle := hat.le
  rw [leBytes_length] at hle
  obtain ⟨r1, r2⟩ := hn L P hload (by omega) (by omega)
  have hA : plcA L P v.w v.t v.w = P := by unfold plcA; rw [if_pos hp, if_pos hi']
  have hW : plcW L P v.w v.t v.w = v.w := by unfold plcW; rw [if_pos hp, if_pos hi']
  refine ⟨h1, ?_, ?_, ?_, ?_⟩ <;> rw [h2]
  · exact hp
  · exact hk
  · show (decide (plcE L P v.w v.t v.w = 0) && rdN L v.t (plcA L P v.w v.t v.w) (plcW L P v.w v.t v.w)) = neg
    rw [hp, hA, hW, r1]; simp
  · show (if plcE L P v.w v.t v.w = 0 then rdU L v.t (plcA L P v.w v.t v.w) (plcW L P v.w v.t v.w) else 0) = mag
    rw [if_pos hp, hA, hW, r2]
theorem numf_off {x : List UInt8} {t wd y : Nat} {k : Int} {neg : Bool} {mag : Nat} (hx : x.length % 8 = 0) (hi : inl t = false) (hs : isS t = true) (hl : legalT t = true) (hw : isW (wd : Int) = true) (hk : kindT t = k)
    (hn : ∀ l : List UInt8, ∀ a : Int, loadU l a wd = y % 2 ^ (8 * wd) → 0 ≤ a → a + wd ≤ l.length → rdN l t a wd = neg ∧ rdU l t a wd = mag) : NumF (x ++ docB (leBytes wd (y % 2 ^ (8 * wd))) ⟨t, wd, 0⟩ 1) k neg mag := by
  have h8 : 1 ≤ wd ∧ wd ≤ 8 := by rcases w_cases hw with rfl | rfl | rfl | rfl <;> omega
  obtain ⟨_, hf⟩ := finok_off (x := y % 2 ^ (8 * wd)) hi hl hw
  have hw1 : isW ((1 : Nat) : Int) = true := by decide
  obtain ⟨h1, h2⟩ := root_doc (x := x) (b := leBytes wd (y % 2 ^ (8 * wd))) (v := ⟨t, wd, 0⟩) hx hw1 hl hw
  have hne : ¬ inl t = true := by rw [hi]; decide
  have hne' : ¬ inlineT (t : Int) = true := hne
  have how : ownW 1 ⟨t, wd, 0⟩ = wd := by unfold ownW; rw [if_neg hne]
  have hm := doc_may (x := x) (b := leBytes wd (y % 2 ^ (8 * wd))) (v := ⟨t, wd, 0⟩) hw1 hl hw
  obtain ⟨t1, t2, _⟩ := (doc_target (x := x) (b := leBytes wd (y % 2 ^ (8 * wd))) (v := ⟨t, wd, 0⟩) hw1 hl hw (by rw [leBytes_length]; omega) hf).2 hi
  rw [how] at h2 hm t1 t2
  rw [align1] at h2 hm t1 t2
  obtain ⟨L, hL⟩ : ∃ L, x ++ docB (leBytes wd (y % 2 ^ (8 * wd))) ⟨t, wd, 0⟩ 1 = L := ⟨_, rfl⟩
  obtain ⟨P, hP⟩ : ∃ P : Nat, x.length + (leBytes wd (y % 2 ^ (8 * wd))).length = P := ⟨_, rfl⟩
  have hat : At L x.length (leBytes wd (y % 2 ^ (8 * wd))) := ⟨x, leBytes 1 (elemN 1 (alignB 1 (leBytes wd (y % 2 ^ (8 * wd)))).length ⟨t, wd, 0⟩) ++ [bTag 1 ⟨t, wd, 0⟩, UInt8.ofNat 1], by rw [← hL, docB, align1]; simp only [List.append_assoc], rfl⟩
  have hload : loadU L (x.length : Int) wd = y % 2 ^ (8 * wd) := by rw [hat.load hw, leVal_leBytes, Nat.mod_mod]
  have hle := hat.le
  rw [leBytes_length] at hle
  rw [hL, hP] at h2 hm t1 t2
  rw [hL] at h1 ⊢
  simp only [Nat.add_zero] at t2
  have hp : plcE L P (1 : Nat) t wd = 0 := by
    unfold plcE
    rw [if_neg (by rw [hm]; decide), if_neg (by rw [hs]; decide), if_neg hne', if_neg (by rw [t1]; decide), t2, if_neg, if_neg]
    · intro h
      exact inB_no h ⟨by omega, by omega, by omega⟩
    · rcases w_cases hw with rfl | rfl | rfl | rfl <;> omega
  obtain ⟨r1, r2⟩ := hn L x.length hload (by omega) (by omega)
  have hA : plcA L P (1 : Nat) t wd = x.length := by unfold plcA; rw [if_pos hp, if_neg hne', t2]
  have hW : plcW L P (1 : Nat) t wd = wd := by unfold plcW; rw [if_pos hp, if_neg hne']
  refine ⟨h1, ?_, ?_, ?_, ?_⟩ <;> rw [h2]
  · exact hp
  · exact hk
  · show (decide (plcE L P (1 : Nat) t wd = 0) && rdN L t (plcA L P (1 : Nat) t wd) (plcW L P (1 : Nat) t wd)) = neg
    rw [hp, hA, hW, r1]; simp
  · show (if plcE L P (1 : Nat) t wd = 0 then rdU L t (plcA L P (1 : Nat) t wd) (plcW L P (1 : Nat) t wd) else 0) = mag
    rw [if_pos hp, hA, hW, r2]
end Go.Proofs.YtjhigmgkmmjlfaaGreat
