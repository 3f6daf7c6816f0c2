/-
  Package minimal: bytes before a document move the offset, in plain terms; the property MinimalMoved.
-/
import Derived.Test.YtejalfjeihlpeaaQ32
namespace Go.Proofs.Ytejalfjeihlpeaa
open Go.RowKit Go.Acc
section
variable (l : List UInt8) (p q t v : Int)
theorem may_fine (n : Nat) : mayE n p q t v ≠ 10 := by unfold mayE; (repeat' split) <;> decide
theorem tgt_fine : tgtE l p q t v ≠ 10 := by
  unfold tgtE
  (repeat' split)
  · decide
  · decide
  · decide
  · exact may_fine _ _ _ _ _
theorem ls_fine : lsE l p q t v ≠ 10 := by
  unfold lsE
  split
  · exact may_fine _ _ _ _ _
  split
  · decide
  split
  · exact tgt_fine _ _ _ _ _
  (repeat' split) <;> decide
theorem un_fine (c : UInt8) : unE c ≠ 10 := by unfold unE; split <;> decide
theorem at_fine (i : Int) : atE l p q t v i ≠ 10 := by
  unfold atE
  split
  · exact ls_fine _ _ _ _ _
  split
  · decide
  split
  · exact un_fine _
  · decide
theorem ky_fine : kyE l p q t v ≠ 10 := by
  unfold kyE
  split
  · exact may_fine _ _ _ _ _
  split
  · decide
  split
  · exact ls_fine _ _ _ _ _
  split <;> decide
theorem plc_fine : plcE l p q t v ≠ 10 := by
  unfold plcE
  split
  · exact may_fine _ _ _ _ _
  split
  · decide
  split
  · decide
  split
  · exact tgt_fine _ _ _ _ _
  (repeat' split) <;> decide
theorem fnd_fine (ts : List Nat) : fndE l p q t v ts ≠ 10 := by
  unfold fndE
  split
  · exact may_fine _ _ _ _ _
  split
  · decide
  split
  · exact tgt_fine _ _ _ _ _
  split
  · unfold keyE
    split <;> decide
  · unfold cntE
    (repeat' split) <;> decide
theorem root_fine : rootE l ≠ 10 := by
  unfold rootE
  split
  · decide
  split
  · exact un_fine _
  (repeat' split) <;> decide
end
section
variable {l : List UInt8} {go : Rq → CvS → CvS × Int} (hg : ∀ r s, (go r s).2 ≠ 10) (r : Rq)
include hg
theorem elems_fine : ∀ (n i : Nat) (s : CvS), (cvElems l go r n i s).2 ≠ 10
  | 0, _, _ => (by decide : (0 : Int) ≠ 10)
  | n + 1, i, s => by
    unfold cvElems
    split
    · exact at_fine _ _ _ _ _ _
    split
    · exact hg _ _
    · exact elems_fine n (i + 1) _
theorem data_fine (s : CvS) : (cvData l go r s).2 ≠ 10 := by
  unfold cvData
  split
  · unfold cvText
    split
    · exact fnd_fine _ _ _ _ _ _
    (repeat' split) <;> exact (by decide : (0 : Int) ≠ 10)
  split
  · unfold cvApart
    split
    · exact (by decide : (0 : Int) ≠ 10)
    · exact plc_fine _ _ _ _ _
  unfold cvList
  split
  · exact ls_fine _ _ _ _ _
  split
  · unfold cvHead
    split
    · unfold cvKeys
      split
      · exact ky_fine _ _ _ _ _
      split
      · exact hg _ _
      · exact (by decide : (0 : Int) ≠ 10)
    · exact (by decide : (0 : Int) ≠ 10)
  · exact elems_fine hg r _ _ _
end
theorem come_fine (l : List UInt8) : ∀ (d : Nat) (r : Rq) (s : CvS), (cvCome l d r s).2 ≠ 10
  | 0, _, _ => (by decide : (260 : Int) ≠ 10)
  | d + 1, r, s => by
    unfold cvCome
    split
    · exact (by decide : (260 : Int) ≠ 10)
    split
    · exact (by decide : (0 : Int) ≠ 10)
    split
    · exact tgt_fine _ _ _ _ _
    · exact data_fine (come_fine l d) r _
theorem parts_fine (l : List UInt8) (f : Int) : cvPartsE l f ≠ 10 := by
  unfold cvPartsE
  split
  · exact root_fine _
  · exact come_fine _ _ _ _
/-- What the visit of a document whose parts are found leaves behind. -/
theorem parts_good {l : List UInt8} {f : Int} (h : cvPartsE l f = 0) : ∃ H, GoodC l H (cvRoot l) ∧ ∀ y ∈ H, Complete l H y := by
  have hr := root_of_parts h
  obtain ⟨_, hrq⟩ := mnok_root hr
  have hv : (cvVisit l f).2 = 0 := by
    unfold cvPartsE at h
    rw [if_neg (by rw [hr]; decide)] at h
    exact h
  obtain ⟨g1, g2⟩ := come_finds l (f.toNat + 1) (cvRoot l) (cvS1 l f) hrq.1 hv
  refine ⟨_, g2, fun y hy => ?_⟩
  rcases g1.new y hy with h1 | h1
  · have : (cvS1 l f).had = [] := by unfold cvS1; rw [tell_had, tell_had]
    rw [this] at h1
    cases h1
  · exact h1
theorem parts_moves {pre l : List UInt8} (hk : pre.length % 8 = 0) {f : Int} (h : cvPartsE l f = 0) : cvPartsE (pre ++ l) f = 0 := by
  have hr := root_of_parts h
  obtain ⟨hr', e⟩ := root_pre hk hr
  have hv : (cvVisit l f).2 = 0 := by
    unfold cvPartsE at h
    rw [if_neg (by rw [hr]; decide)] at h
    exact h
  have hs : CvSh pre.length (cvS1 l f) (cvS1 (pre ++ l) f) := by
    unfold cvS1
    exact CvSh.tell (CvSh.tell (⟨rfl, rfl⟩ : CvSh pre.length ⟨f, [], []⟩ ⟨f, [], []⟩) _ _ _ _ _ _) _ _ _ _ _ _
  have := (come_moves hk (f.toNat + 1) (cvRoot l) _ _ hs hv).1
  unfold cvPartsE
  rw [if_neg (by rw [hr']; decide)]
  unfold cvVisit
  rw [e]
  exact this
theorem mnres_sh (k : Nat) (x : Except Int (List P3)) : mnRes (shX k x) = if (mnRes x).2 = 10 then ((mnRes x).1 + k, 10) else mnRes x := by
  cases x with
  | error a => rfl
  | ok h => rfl
theorem moved_plain {pre l : List UInt8} (hk : pre.length % 8 = 0) {f : Int} (h : (mnCheck l f).2 = 0 ∨ (mnCheck l f).2 = 10) : mnCheck (pre ++ l) f = if (mnCheck l f).2 = 10 then ((mnCheck l f).1 + pre.length, 10) else mnCheck l f := by
  have h0 : cvPartsE l f = 0 := by
    refine Decidable.byContradiction fun hne => ?_
    rw [mncheck_no hne] at h
    simp only at h
    rcases h with h | h
    · exact hne h
    · exact parts_fine l f h
  have h0' := parts_moves hk h0
  obtain ⟨H, hG, hH⟩ := parts_good h0
  have hr := root_of_parts h0
  obtain ⟨hr', e⟩ := root_pre hk hr
  obtain ⟨hok, _⟩ := mnok_root hr
  obtain ⟨hok', _⟩ := mnok_root hr'
  have hst := good_stands (pre := pre) hG (cvRoot l).p ((cvRoot l).q / 2)
  have hrun : mnRun (pre ++ l) ((cvRoot l).sh pre.length) = shX pre.length (mnRun l (cvRoot l)) := by
    have e1 := mnrun_is (l := l) hok
    have e2 := mngo_pre (pre := pre) hk hH (mnFuel l) (cvRoot l) [] hG
    rw [e1] at e2
    have e3 := mngo_mono (pre ++ l) (mnFuel l) (mnFuel (pre ++ l)) (by unfold mnFuel; rw [List.length_append]; omega) _ _ _ e2
    rw [e] at hok'
    have e4 := mnrun_is (l := pre ++ l) hok'
    rw [List.map_nil] at e3
    rw [e3] at e4
    injection e4 with e4
    exact e4.symm
  have hu : mnCheck (pre ++ l) f = if 1 < (cvRoot l).q ∧ mnStands l (cvRoot l).p (cvRoot l).q (cvRoot l).t (cvRoot l).v (cvRoot l).p ((cvRoot l).q / 2) = true then ((cvRoot l).p + pre.length, 10) else mnRes (shX pre.length (mnRun l (cvRoot l))) := by
    unfold mnCheck
    have a1 : ¬ cvPartsE (pre ++ l) f ≠ 0 := by rw [h0']; decide
    rw [if_neg a1, e, hrun, ← hst]
    rfl
  have hu2 : mnCheck l f = if 1 < (cvRoot l).q ∧ mnStands l (cvRoot l).p (cvRoot l).q (cvRoot l).t (cvRoot l).v (cvRoot l).p ((cvRoot l).q / 2) = true then ((cvRoot l).p, 10) else mnRes (mnRun l (cvRoot l)) := by
    have a1 : ¬ cvPartsE l f ≠ 0 := by rw [h0]; decide
    unfold mnCheck
    rw [if_neg a1]
  rw [hu, hu2, mnres_sh]
  by_cases hc : 1 < (cvRoot l).q ∧ mnStands l (cvRoot l).p (cvRoot l).q (cvRoot l).t (cvRoot l).v (cvRoot l).p ((cvRoot l).q / 2) = true
  · rw [if_pos hc, if_pos hc]
    rfl
  · rw [if_neg hc, if_neg hc]
set_option maxRecDepth 100000 in
set_option maxHeartbeats 1000000 in
theorem minmoved_spec (A A' : Option Addr) (n c m c' : Nat) (l l' : List UInt8) (w : World) (h : IsB w A n l) (hc : n ≤ c) (h' : IsB w A' m l') (hc' : m ≤ c') :
    Calls Try.prog 5 #[.slice A n c, .slice A' m c'] w fun e w' => e = .returned (.bool true) ∧ Below w.heap.size w w' := by
  have hm := h'.1
  obtain ⟨N, hN, hN8, hNm, hN2⟩ : ∃ N : Nat, min (m : Int) 200 / 8 * 8 = (N : Int) ∧ N % 8 = 0 ∧ N ≤ m ∧ N ≤ 200 := by
    by_cases h2 : m ≤ 200
    · exact ⟨m / 8 * 8, by omega, by omega, by omega, by omega⟩
    · exact ⟨200, by omega, by omega, by omega, by omega⟩
  have HM := Lib.hid h'
  have HLM := Lib.hid hm
  have HN8 := Lib.hid hN8
  have HN := Lib.hid hN
  have hcut := cut_run A' m c' N (by omega)
  have HI := Lib.hid h
  clear h h' hm hN8 hN
  go_enter Try.func5, Try.ntmps5
  go_wp2_with fail
  go_at_call 13
  refine (bytes30_spec A n c l _ HI.out hc).mono ?_
  rintro e w1 ⟨A1, n1, c1, rfl, hn1, hO1, hb1⟩
  have hc1 := hO1.cap.1
  have HO := Lib.hid hO1.is
  have HB := Lib.hid hb1
  replace HM := Lib.hid (HM.out.pure hb1)
  generalize l.take 1500 = l at HO
  clear hO1 hb1 HI
  have HL1 := Lib.hid HO.out.1
  obtain ⟨⟨a, er⟩, hk⟩ : ∃ x, mnCheck l 2000 = x := ⟨_, rfl⟩
  have hmv := fun hx => moved_plain (pre := l'.take N) (l := l) (by rw [List.length_take, HLM.out, Nat.min_eq_left hNm]; exact HN8.out) (f := 2000) hx
  rw [hk] at hmv
  have hll : (l'.take N).length = N := by rw [List.length_take, HLM.out]; omega
  rw [hll] at hmv
  simp only at hmv
  have HMV := Lib.hid hmv
  have HK := Lib.hid hk
  have HE0 := Lib.hid (show er ≠ 0 → er ≠ 10 → a = 0 from by
    intro e1 e2
    by_cases h0 : cvPartsE l 2000 = 0
    · rcases mncheck_ok h0 with g | ⟨b, g, _⟩
      · rw [hk] at g; injection g
      · rw [hk] at g; injection g with g1 g2; exact absurd g2 e2
    · rw [mncheck_no h0] at hk; injection hk with g; exact g.symm)
  have HA0 := Lib.hid (show 0 ≤ a ∧ a ≤ 1500 from by
    by_cases h0 : cvPartsE l 2000 = 0
    · rcases mncheck_ok h0 with g | ⟨b, g, g1, g2⟩
      · rw [hk] at g; injection g with g1 g2; subst g1; omega
      · rw [hk] at g; injection g with g3 g4; subst g3; have := HL1.out; omega
    · rw [mncheck_no h0] at hk; injection hk with g; subst g; omega)
  clear hmv hk hll
  go_wp2_with fail
  go_at_call 14
  refine (check_is A1 n1 c1 2000 a er l _ HO.out hc1 (by omega) (by decide) HK.out).mono ?_
  rintro e w2 ⟨rfl, hb⟩
  replace HO := Lib.hid (HO.out.pure hb)
  replace HB := Lib.hid (pure_below HB.out hb)
  replace HM := Lib.hid (HM.out.pure hb)
  clear hb HK
  by_cases e0 : er = 0
  · subst e0
    have hmv := HMV.out (.inl rfl)
    rw [if_neg (by decide)] at hmv
    have HMK := Lib.hid hmv
    have HBS := Lib.hid HB.out.size
    clear hmv HMV
    go_upto_region 6 with fail
    rw [HN.out]
    go_wp2_with fail
    go_at_call 16
    refine (copyb_spec A' N c' (l'.take N) _ (HM.out.take bc_len hNm) (by omega)).mono ?_
    rintro e w3 ⟨A3, n3, c3, rfl, hO3, hb3⟩
    obtain rfl : N = n3 := by rw [← hO3.1, List.length_take, HLM.out]; omega
    have HO3 := Lib.hid hO3
    replace HO := Lib.hid (HO.out.pure hb3)
    replace HB := Lib.hid (pure_below HB.out hb3)
    have HB3 := Lib.hid hb3
    have HWS := Lib.hid (Nat.le_trans HBS.out (Nat.le_refl w2.heap.size))
    clear hO3 hb3
    go_wp2_with (at_builtin; refine wpl_app _ rfl (.tmp 38) (.tmp 39) _ rfl 5 _ 1 1 Try.underlying22 info_b rfl (by omega) bc_len bc_one _ _ _ _ _ rfl HO3.out _ _ _ _ rfl HO.out (by omega) HB3.out.size ?_; intro A4 c4 w4 hown hfr hat; have HO4 := Lib.hid hown; have HF4 := Lib.hid hfr; clear hown hfr hat)
    replace HB := Lib.hid (below_fr HB.out HF4.out (by rintro j ⟨ad, e, rfl⟩; exact Nat.le_trans HWS.out (HO3.out.addr ad e).2.1))
    go_wp2_with fail
    go_at_call 14
    refine (check_is A4 (N + n1) c4 2000 _ _ (l'.take N ++ l) _ HO4.out.is HO4.out.cap.1 (by omega) (by decide) HMK.out).mono ?_
    rintro e w5 ⟨rfl, hb⟩
    replace HB := Lib.hid (pure_below HB.out hb)
    clear hb
    go_wp2_with fail
    go_at_call 15
    refine (mnworks_spec _).mono ?_
    rintro e w7 ⟨rfl, hb⟩
    replace HB := Lib.hid (pure_below HB.out hb)
    clear hb
    go_wp2
    go_ret
    exact ⟨rfl, HB.out⟩
  by_cases e1 : er = 10
  · subst e1
    have hmv := HMV.out (.inr rfl)
    rw [if_pos rfl] at hmv
    have HMK := Lib.hid hmv
    have HBS := Lib.hid HB.out.size
    have hw8 : IntKind.i64.wrap (a + (N : Int)) = a + N := by have := HA0.out; exact IntWalk.i64_in _ (by omega)
    clear hmv HMV
    go_upto_region 6 with fail
    rw [HN.out]
    go_wp2_with fail
    go_at_call 16
    refine (copyb_spec A' N c' (l'.take N) _ (HM.out.take bc_len hNm) (by omega)).mono ?_
    rintro e w3 ⟨A3, n3, c3, rfl, hO3, hb3⟩
    obtain rfl : N = n3 := by rw [← hO3.1, List.length_take, HLM.out]; omega
    have HO3 := Lib.hid hO3
    replace HO := Lib.hid (HO.out.pure hb3)
    replace HB := Lib.hid (pure_below HB.out hb3)
    have HB3 := Lib.hid hb3
    have HWS := Lib.hid (Nat.le_trans HBS.out (Nat.le_refl w2.heap.size))
    clear hO3 hb3
    go_wp2_with (at_builtin; refine wpl_app _ rfl (.tmp 38) (.tmp 39) _ rfl 5 _ 1 1 Try.underlying22 info_b rfl (by omega) bc_len bc_one _ _ _ _ _ rfl HO3.out _ _ _ _ rfl HO.out (by omega) HB3.out.size ?_; intro A4 c4 w4 hown hfr hat; have HO4 := Lib.hid hown; have HF4 := Lib.hid hfr; clear hown hfr hat)
    replace HB := Lib.hid (below_fr HB.out HF4.out (by rintro j ⟨ad, e, rfl⟩; exact Nat.le_trans HWS.out (HO3.out.addr ad e).2.1))
    go_wp2_with fail
    go_at_call 14
    refine (check_is A4 (N + n1) c4 2000 _ _ (l'.take N ++ l) _ HO4.out.is HO4.out.cap.1 (by omega) (by decide) HMK.out).mono ?_
    rintro e w5 ⟨rfl, hb⟩
    replace HB := Lib.hid (pure_below HB.out hb)
    clear hb
    go_wp2_with fail
    go_at_call 15
    refine (mnworks_spec _).mono ?_
    rintro e w7 ⟨rfl, hb⟩
    replace HB := Lib.hid (pure_below HB.out hb)
    clear hb
    go_wp2
    go_ret
    exact ⟨rfl, HB.out⟩
  · have t0 : (er != 0) = true := by simpa using e0
    have t1 : (er != 10) = true := by simpa using e1
    obtain rfl := HE0.out e0 e1
    clear e0 e1
    go_wp2_with fail
    go_at_call 15
    refine (mnworks_spec _).mono ?_
    rintro e w7 ⟨rfl, hb⟩
    replace HB := Lib.hid (pure_below HB.out hb)
    clear hb
    go_wp2
    go_ret
    exact ⟨rfl, HB.out⟩
end Go.Proofs.Ytejalfjeihlpeaa
