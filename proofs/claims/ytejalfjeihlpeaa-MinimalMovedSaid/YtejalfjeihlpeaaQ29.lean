/-
  Package cover: more fuel does not change the result (property CoverFuel).
  Package minimal: the examples of the chapter.
-/
import Derived.Test.YtejalfjeihlpeaaQ28
namespace Go.Proofs.Ytejalfjeihlpeaa
open Go.RowKit Go.Acc
def CvS.more (s : CvS) (k : Nat) : CvS := { s with left := s.left + k }
theorem tell_more (s : CvS) (k : Nat) (a b c : Int) : (s.more k).tell a b c = (s.tell a b c).more k := by unfold CvS.tell; split <;> rfl
def Eases (k : Nat) (go go' : Rq → CvS → CvS × Int) : Prop := ∀ r s, (go r s).2 ≠ 260 → go' r (s.more k) = ((go r s).1.more k, (go r s).2)
section
variable {l : List UInt8} {go go' : Rq → CvS → CvS × Int} (r : Rq) {k : Nat}
theorem text_more (s : CvS) : cvText l r (s.more k) = ((cvText l r s).1.more k, (cvText l r s).2) := by
  unfold cvText
  (repeat' split) <;> simp only [tell_more]
theorem apart_more (s : CvS) : cvApart l r (s.more k) = ((cvApart l r s).1.more k, (cvApart l r s).2) := by
  unfold cvApart
  (repeat' split) <;> simp only [tell_more]
theorem tag_more (i : Nat) (s : CvS) : cvTag l r i (s.more k) = (cvTag l r i s).more k := by unfold cvTag; split <;> simp only [tell_more]
theorem len_more (s : CvS) : cvLen l r (s.more k) = (cvLen l r s).more k := by unfold cvLen; split <;> simp only [tell_more]
theorem keys_more (hg : Eases k go go') (s : CvS) (h : (cvKeys l go r s).2 ≠ 260) : cvKeys l go' r (s.more k) = ((cvKeys l go r s).1.more k, (cvKeys l go r s).2) := by
  unfold cvKeys at h ⊢
  split
  · rfl
  · rename_i h1
    rw [if_neg h1] at h
    have hne : (go (cvKey l r) s).2 ≠ 260 := by
      by_cases h2 : (go (cvKey l r) s).2 ≠ 0
      · rw [if_pos h2] at h; exact h
      · have := Decidable.of_not_not h2; omega
    have e := hg (cvKey l r) s hne
    rw [e]
    split
    · rfl
    · simp only [tell_more]
theorem head_more (hg : Eases k go go') (s : CvS) (h : (cvHead l go r s).2 ≠ 260) : cvHead l go' r (s.more k) = ((cvHead l go r s).1.more k, (cvHead l go r s).2) := by
  unfold cvHead at h ⊢
  split
  · rename_i ht
    rw [if_pos ht] at h
    exact keys_more r hg s h
  · rfl
theorem elems_more (hg : Eases k go go') : ∀ (n i : Nat) (s : CvS), (cvElems l go r n i s).2 ≠ 260 → cvElems l go' r n i (s.more k) = ((cvElems l go r n i s).1.more k, (cvElems l go r n i s).2)
  | 0, i, s, _ => rfl
  | n + 1, i, s, h => by
    unfold cvElems at h ⊢
    rw [tag_more]
    split
    · rfl
    · rename_i h1
      rw [if_neg h1] at h
      have hne : (go (cvAt l r i) (cvTag l r i s)).2 ≠ 260 := by
        by_cases h2 : (go (cvAt l r i) (cvTag l r i s)).2 ≠ 0
        · rw [if_pos h2] at h; exact h
        · have := Decidable.of_not_not h2; omega
      have e := hg (cvAt l r i) (cvTag l r i s) hne
      rw [e]
      split
      · rfl
      · rename_i h2
        rw [if_neg h2] at h
        exact elems_more hg n (i + 1) _ h
theorem list_more (hg : Eases k go go') (s : CvS) (h : (cvList l go r s).2 ≠ 260) : cvList l go' r (s.more k) = ((cvList l go r s).1.more k, (cvList l go r s).2) := by
  unfold cvList at h ⊢
  split
  · rfl
  · rename_i h1
    rw [if_neg h1] at h
    have hne : (cvHead l go r s).2 ≠ 260 := by
      by_cases h2 : (cvHead l go r s).2 ≠ 0
      · rw [if_pos h2] at h; exact h
      · have := Decidable.of_not_not h2; omega
    have e := head_more r hg s hne
    rw [e]
    split
    · rfl
    · rename_i h2
      rw [if_neg h2] at h
      simp only [len_more]
      exact elems_more r hg _ _ _ h
theorem data_more (hg : Eases k go go') (s : CvS) (h : (cvData l go r s).2 ≠ 260) : cvData l go' r (s.more k) = ((cvData l go r s).1.more k, (cvData l go r s).2) := by
  unfold cvData at h ⊢
  split
  · exact text_more r s
  · rename_i h1
    rw [if_neg h1] at h
    split
    · exact apart_more r s
    · rename_i h2
      rw [if_neg h2] at h
      exact list_more r hg s h
end
theorem start_more (r : Rq) (s : CvS) (k : Nat) : cvStart r (s.more k) = (cvStart r s).more k := by
  unfold cvStart
  rw [← tell_more]
  congr 1
  unfold CvS.burn CvS.more
  simp only
  congr 1
  omega
theorem come_more (l : List UInt8) (k : Nat) : ∀ d d', d ≤ d' → Eases k (cvCome l d) (cvCome l d')
  | 0, _, _, r, s, h => absurd rfl h
  | d + 1, 0, h, _, _, _ => by omega
  | d + 1, d' + 1, hd, r, s, h => by
    unfold cvCome at h ⊢
    by_cases h1 : s.left < 1
    · rw [if_pos h1] at h; exact absurd rfl h
    · rw [if_neg h1] at h
      rw [if_neg h1, if_neg (show ¬ (s.more k).left < 1 by unfold CvS.more; simp only; omega), start_more]
      split
      · rfl
      · rename_i h2
        rw [if_neg h2] at h
        have eh : (s.more k).had = s.had := rfl
        rw [eh]
        split
        · rfl
        · rename_i h3
          rw [if_neg h3] at h
          have es : ((cvStart r s).more k).see (cvSpot l r) = ((cvStart r s).see (cvSpot l r)).more k := rfl
          rw [es]
          exact data_more r (come_more l k d d' (by omega)) _ h
theorem fuel_more (l : List UInt8) (n m : Int) (h : n ≤ m) (he : cvPartsE l n ≠ 260) : cvPartsE l m = cvPartsE l n ∧ cvParts l m = cvParts l n := by
  obtain ⟨k, rfl⟩ : ∃ k : Nat, m = n + k := ⟨(m - n).toNat, by omega⟩
  have hE : cvPartsE l (n + k) = cvPartsE l n ∧ (rootE l = 0 → (cvVisit l (n + k)).1.out = (cvVisit l n).1.out) := by
    unfold cvPartsE at he ⊢
    by_cases hr : rootE l ≠ 0
    · rw [if_pos hr, if_pos hr]; exact ⟨rfl, fun h => absurd h hr⟩
    · rw [if_neg hr] at he
      rw [if_neg hr, if_neg hr]
      have h1 := come_more l k (n.toNat + 1) ((n + k).toNat + 1) (by omega) (cvRoot l) (cvS1 l n) he
      have h2 : (cvS1 l n).more k = cvS1 l (n + k) := by unfold cvS1; rw [← tell_more, ← tell_more]; rfl
      rw [h2] at h1
      unfold cvVisit
      rw [h1]
      exact ⟨rfl, fun _ => rfl⟩
  refine ⟨hE.1, ?_⟩
  unfold cvParts
  rw [hE.1]
  split
  · rfl
  · rename_i h0
    have h0 := Decidable.of_not_not h0
    have hr : rootE l = 0 := by
      refine Decidable.byContradiction fun hr => ?_
      unfold cvPartsE at h0
      rw [if_pos hr] at h0
      exact hr h0
    rw [hE.2 hr]
set_option maxRecDepth 100000 in
set_option maxHeartbeats 400000 in
theorem bytes28_spec (A : Option Addr) (n c : Nat) (l : List UInt8) (w : World) (h : IsB w A n l) (hc : n ≤ c) :
    Calls Try.prog 7 #[.slice A n c] w fun e w' => ∃ A' n' c', e = .returned (.slice A' n' c') ∧ n' ≤ 1500 ∧ OwnB w' w.heap.size A' n' c' (l.take 1500) ∧ Below w.heap.size w w' := by
  obtain ⟨M, hMn, hMB, hmin, hcut⟩ := cut_facts A n c 1500 1500 rfl hc
  have hl := h.1
  have hM : l.take 1500 = l.take M := by
    by_cases hn : n ≤ 1500
    · have : M = n := by split at hmin <;> omega
      rw [this, List.take_of_length_le (by omega), List.take_of_length_le (by omega)]
    · have : M = 1500 := by split at hmin <;> omega
      rw [this]
  rw [hM]
  have hmin2 : min (n : Int) 1500 = M := by split at hmin <;> omega
  have HM := Lib.hid (h.take bc_len hMn)
  clear h hl hM
  go_enter Try.func7, Try.ntmps7
  go_wp2_with fail
  go_at_call 16
  refine (copyb_spec A M c (l.take M) _ HM.out (by omega)).mono ?_
  rintro e w1 ⟨A1, n1, c1, rfl, hO1, hb1⟩
  obtain rfl : M = n1 := by rw [← hO1.1, HM.out.1]
  have HO := Lib.hid hO1
  have HB := Lib.hid hb1
  clear hO1 hb1
  go_wp2_with fail
  go_ret
  exact ⟨A1, M, c1, rfl, by omega, HO.out, HB.out⟩
set_option maxRecDepth 100000 in
set_option maxHeartbeats 1000000 in
theorem same28_yes (A1 A2 : Option Addr) (n c1 c2 : Nat) (L : List P3) (w : World) (h1 : IsP w A1 n L) (h2 : IsP w A2 n L) (hm : n ≤ 9223372036854775807) :
    Calls Try.prog 12 #[.slice A1 n c1, .slice A2 n c2] w fun e w' => e = .returned (.bool true) ∧ Below w.heap.size w w' := by
  have HL := Lib.hid h1
  have HO := Lib.hid h2
  have HB := Lib.hid (Below.refl w.heap.size w)
  clear h1 h2
  go_enter Try.func12, Try.ntmps12
  go_wp2_with fail
  go_loopw [5] (fun i wr => ∃ k : Nat, k ≤ n ∧ i = .int .i64 k ∧ Below w.heap.size w wr ∧ IsP wr A1 n L ∧ IsP wr A2 n L) (fun i _ => n - (intOf i).toNat)
  case atStart => exact ⟨0, by omega, rfl, HB.out, HL.out, HO.out⟩
  case round =>
    clear HB HL HO
    obtain ⟨k, hk, rfl, hb, h1, h2⟩ := hrel
    have HB := Lib.hid hb
    have I1 := Lib.hid h1
    have I2 := Lib.hid h2
    have hLn : L.length = n := h1.1
    clear hb h1 h2
    by_cases hkn : k < n
    · obtain ⟨b1, o1, e1, h1⟩ := isp_at I1.out hkn
      obtain ⟨b2, o2, e2, h2⟩ := isp_at I2.out hkn
      obtain ⟨⟨x, y, z⟩, hx⟩ : ∃ x, L[k]? = some x := ⟨_, List.getElem?_eq_getElem (by omega)⟩
      obtain ⟨a0, a1, a2⟩ := h1 x y z hx
      obtain ⟨c0, c1, c2⟩ := h2 x y z hx
      have heq := part_neq (x, y, z) (x, y, z) false (by simp)
      have hk0 : (0 : Int) ≤ k := by omega
      have hkI : (k : Int) < n := by omega
      have hwk : IntKind.i64.wrap ((k : Int) + 1) = (k : Int) + 1 := IntWalk.i64_in _ (by omega)
      subst e1 e2
      clear h1 h2 hx hLn
      go_wp2_with fail
      go_quiet (fail)
      go_wp2_with fail
      go_roundw
      case rel => exact ⟨k + 1, by omega, by go_num, below_drewN HB.out _, I1.out.drewN _, I2.out.drewN _⟩
      case measure => simp [intOf]; omega
    · obtain rfl : k = n := by omega
      clear hLn
      go_wp2
      go_ret
      exact ⟨rfl, HB.out⟩
set_option maxRecDepth 100000 in
set_option maxHeartbeats 1000000 in
theorem coverfuel_spec (A : Option Addr) (n c : Nat) (x y : Int) (l : List UInt8) (w : World) (h : IsB w A n l) (hc : n ≤ c) :
    Calls Try.prog 4 #[.slice A n c, .int .i64 x, .int .i64 y] w fun e w' => e = .returned (.bool true) ∧ Below w.heap.size w w' := by
  have HM := Lib.hid h
  clear h
  go_enter Try.func4, Try.ntmps4
  go_wp2_with fail
  go_at_call 7
  refine (bytes28_spec A n c l _ HM.out hc).mono ?_
  rintro e w1 ⟨A1, n1, c1, rfl, hn1, hO1, hb1⟩
  have hc1 := hO1.cap.1
  have HO := Lib.hid hO1.is
  have HB := Lib.hid hb1
  generalize l.take 1500 = l at HO
  clear hO1 hb1 HM
  go_wp2_with fail
  go_at_call 11
  refine (bring_spec x 2001 _ (by decide) (by decide)).mono ?_
  rintro e w2 ⟨rfl, rfl⟩
  have a0 := Int.emod_nonneg x (show (2001 : Int) ≠ 0 by decide)
  have a1 := Int.emod_lt_of_pos x (show (0 : Int) < 2001 by decide)
  generalize x % 2001 = a at a0 a1 ⊢
  go_wp2_with fail
  go_at_call 11
  refine (bring_spec y 2001 _ (by decide) (by decide)).mono ?_
  rintro e w2 ⟨rfl, rfl⟩
  have b0 := Int.emod_nonneg y (show (2001 : Int) ≠ 0 by decide)
  have b1 := Int.emod_lt_of_pos y (show (0 : Int) < 2001 by decide)
  generalize y % 2001 = b at b0 b1 ⊢
  go_wp2_with fail
  have hfm := fuel_more l (min a b) (max a b) (by omega)
  obtain ⟨lo, hlo⟩ : ∃ z, min a b = z := ⟨_, rfl⟩
  obtain ⟨hi, hhi⟩ : ∃ z, max a b = z := ⟨_, rfl⟩
  have l1 : lo ≤ 100000000 := by omega
  have l2 : hi ≤ 100000000 := by omega
  rw [hlo, hhi] at hfm
  have HLO := Lib.hid hlo
  have HHI := Lib.hid hhi
  rw [hlo]
  obtain ⟨E, hE⟩ : ∃ z, cvPartsE l lo = z := ⟨_, rfl⟩
  obtain ⟨F, hF⟩ : ∃ z, cvPartsE l hi = z := ⟨_, rfl⟩
  obtain ⟨L, hL⟩ : ∃ z, cvParts l lo = z := ⟨_, rfl⟩
  obtain ⟨K, hK⟩ : ∃ z, cvParts l hi = z := ⟨_, rfl⟩
  rw [hE, hF, hL, hK] at hfm
  have hL0 : E = 260 → L = [] := fun e => by rw [← hL]; unfold cvParts; rw [hE, if_pos (by omega)]
  have HFM := Lib.hid hfm
  have HL0 := Lib.hid hL0
  have p1 := parts_spec A1 n1 c1 lo l w1 HO.out hc1 (by omega) l1
  rw [hE, hL] at p1
  have p2 := fun W (h : IsB W A1 n1 l) => parts_spec A1 n1 c1 hi l W h hc1 (by omega) l2
  rw [hF, hK] at p2
  have P1 := Lib.hid p1
  have P2 := Lib.hid p2
  clear hlo hhi hE hF hL hK hfm hL0 p1 p2 l1 l2 a0 a1 b0 b1
  refine P1.out.mono ?_
  rintro e w2 ⟨A2, k2, c2, rfl, hO2, hb2⟩
  replace HO := Lib.hid (HO.out.pure hb2)
  replace HB := Lib.hid (pure_below HB.out hb2)
  have HO2 := Lib.hid hO2.is
  have hmx : k2 ≤ 9223372036854775807 := by have := hO2.cap; simp only [maxLen] at this; omega
  clear hO2 hb2 P1
  go_wp2_with fail
  go_at_call 8
  rw [HHI.out]
  refine (P2.out _ HO.out).mono ?_
  rintro e w3 ⟨A3, k3, c3, rfl, hO3, hb3⟩
  replace HO2 := Lib.hid (HO2.out.pure hb3)
  replace HB := Lib.hid (pure_below HB.out hb3)
  have HO3 := Lib.hid hO3.is
  clear hO3 hb3 P2 HO HLO HHI
  by_cases hE : E = 260
  · subst hE
    obtain rfl : k2 = 0 := by rw [← HO2.out.1, HL0.out rfl]; rfl
    go_wp2_with fail
    go_at_call 9
    refine (cvworks_spec _).mono ?_
    rintro e w4 ⟨rfl, hb⟩
    replace HB := Lib.hid (pure_below HB.out hb)
    clear hb
    go_wp2
    go_ret
    exact ⟨rfl, HB.out⟩
  · obtain ⟨rfl, rfl⟩ := HFM.out hE
    obtain rfl : k2 = k3 := by rw [← HO2.out.1, HO3.out.1]
    have hE' : (F == 260) = false := by simpa using hE
    clear hE HL0 HFM
    go_wp2_with fail
    go_at_call 12
    refine (same28_yes A2 A3 k2 c2 c3 K _ HO2.out HO3.out hmx).mono ?_
    rintro e w4 ⟨rfl, hb⟩
    replace HB := Lib.hid (pure_below HB.out hb)
    clear hb
    go_wp2_with fail
    go_at_call 9
    refine (cvworks_spec _).mono ?_
    rintro e w5 ⟨rfl, hb⟩
    replace HB := Lib.hid (pure_below HB.out hb)
    clear hb
    go_wp2
    go_ret
    exact ⟨rfl, HB.out⟩
end Go.Proofs.Ytejalfjeihlpeaa

namespace Go.Proofs.Ytejalfjeihlpeaa
open Go.RowKit Go.Acc
set_option maxHeartbeats 400000 in
theorem is30_yes (s : ByteArray) (fuel a er : Int) (w : World) (hf : fuel ≤ 100000000) (hs : s.size ≤ 1000) (h1 : mnCheck s.data.toList fuel = (a, er)) :
    Calls Try.prog 27 #[.string s, .int .i64 fuel, .int .i64 a, .int .i64 er] w fun e w' => e = .returned (.bool true) ∧ Below w.heap.size w w' := by
  have H1 := Lib.hid h1
  obtain ⟨c, w1, hcv, hc, hi, hb⟩ := str_bytes s w
  have HI := Lib.hid hi
  have HB := Lib.hid hb
  clear h1 hi hb
  go_enter Try.func27, Try.ntmps27
  go_wp2_with fail
  go_at_call 14
  refine (check_spec _ s.size c fuel s.data.toList _ HI.out hc (by omega) hf).mono ?_
  rw [H1.out]
  rintro e w2 ⟨rfl, hb⟩
  replace HB := Lib.hid (pure_below HB.out hb)
  clear hb hcv HI
  go_wp2
  go_ret
  exact ⟨rfl, HB.out⟩
theorem w30_1 : mnCheck [5, 4, 1] 9 = (0, 0) := by decide
theorem w30_2 : mnCheck [5, 0, 5, 2] 9 = (0, 10) := by decide
theorem w30_3 : mnCheck [44, 1, 5, 2] 9 = (0, 0) := by decide
theorem w30_4 : mnCheck [255, 0, 5, 2] 9 = (0, 0) := by decide
theorem w30_5 : mnCheck [2, 104, 105, 0, 3, 20, 1] 9 = (0, 0) := by decide
theorem w30_6 : mnCheck [2, 0, 104, 105, 0, 3, 21, 1] 9 = (2, 10) := by decide
theorem w30_7 : mnCheck [2, 0, 1, 0, 44, 1, 5, 5, 6, 41, 1] 9 = (0, 0) := by decide
theorem w30_8 : mnCheck [2, 0, 1, 0, 2, 0, 5, 5, 6, 41, 1] 9 = (2, 10) := by decide
theorem w30_9 : mnCheck [5, 4, 1] 0 = (0, 260) := by decide
theorem w30_10 : mnCheck [4, 1] 9 = (0, 210) := by decide
set_option maxRecDepth 100000 in
set_option maxHeartbeats 2000000 in
theorem mnworks_spec (w : World) : Calls Try.prog 15 #[] w fun e w' => e = .returned (.bool true) ∧ Below w.heap.size w w' := by
  have HB := Lib.hid (Below.refl w.heap.size w)
  go_enter Try.func15, Try.ntmps15
  go_wp2_with fail
  go_at_call 27
  refine (is30_yes _ 9 0 0 _ (by decide) (by decide) w30_1).mono ?_
  rintro e wn ⟨rfl, hb⟩
  replace HB := Lib.hid (pure_below HB.out hb)
  clear hb
  go_wp2_with fail
  go_at_call 27
  refine (is30_yes _ 9 0 10 _ (by decide) (by decide) w30_2).mono ?_
  rintro e wn ⟨rfl, hb⟩
  replace HB := Lib.hid (pure_below HB.out hb)
  clear hb
  go_wp2_with fail
  go_at_call 27
  refine (is30_yes _ 9 0 0 _ (by decide) (by decide) w30_3).mono ?_
  rintro e wn ⟨rfl, hb⟩
  replace HB := Lib.hid (pure_below HB.out hb)
  clear hb
  go_wp2_with fail
  go_at_call 27
  refine (is30_yes _ 9 0 0 _ (by decide) (by decide) w30_4).mono ?_
  rintro e wn ⟨rfl, hb⟩
  replace HB := Lib.hid (pure_below HB.out hb)
  clear hb
  go_wp2_with fail
  go_at_call 27
  refine (is30_yes _ 9 0 0 _ (by decide) (by decide) w30_5).mono ?_
  rintro e wn ⟨rfl, hb⟩
  replace HB := Lib.hid (pure_below HB.out hb)
  clear hb
  go_wp2_with fail
  go_at_call 27
  refine (is30_yes _ 9 2 10 _ (by decide) (by decide) w30_6).mono ?_
  rintro e wn ⟨rfl, hb⟩
  replace HB := Lib.hid (pure_below HB.out hb)
  clear hb
  go_wp2_with fail
  go_at_call 27
  refine (is30_yes _ 9 0 0 _ (by decide) (by decide) w30_7).mono ?_
  rintro e wn ⟨rfl, hb⟩
  replace HB := Lib.hid (pure_below HB.out hb)
  clear hb
  go_wp2_with fail
  go_at_call 27
  refine (is30_yes _ 9 2 10 _ (by decide) (by decide) w30_8).mono ?_
  rintro e wn ⟨rfl, hb⟩
  replace HB := Lib.hid (pure_below HB.out hb)
  clear hb
  go_wp2_with fail
  go_at_call 27
  refine (is30_yes _ 0 0 260 _ (by decide) (by decide) w30_9).mono ?_
  rintro e wn ⟨rfl, hb⟩
  replace HB := Lib.hid (pure_below HB.out hb)
  clear hb
  go_wp2_with fail
  go_at_call 27
  refine (is30_yes _ 9 0 210 _ (by decide) (by decide) w30_10).mono ?_
  rintro e wn ⟨rfl, hb⟩
  replace HB := Lib.hid (pure_below HB.out hb)
  clear hb
  go_wp2
  go_ret
  exact ⟨rfl, HB.out⟩
end Go.Proofs.Ytejalfjeihlpeaa
