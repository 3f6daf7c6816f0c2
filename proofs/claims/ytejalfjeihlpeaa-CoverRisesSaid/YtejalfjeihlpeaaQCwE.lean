/-
  Package cover: parts rise (property CoverRises).
-/
import Derived.Test.YtejalfjeihlpeaaQCwC
namespace Go.Proofs.Ytejalfjeihlpeaa
open Go.RowKit Go.Acc
theorem come_first {l : List UInt8} {d : Nat} {r : Rq} {s : CvS} (hr : RqOk l.length r) (h : (cvCome l (d + 1) r s).2 ≠ 260) : ∃ t, (cvCome l (d + 1) r s).1.out = s.out ++ [(r.p, r.p + r.q, cvOwn r.t)] ++ t ∧ ∀ x ∈ t, GoodP l.length x := by
  have hs : (cvStart r s).out = s.out ++ [(r.p, r.p + r.q, cvOwn r.t)] := by
    unfold cvStart CvS.tell
    rw [if_pos (by have := hr.2.1; omega)]
    rfl
  unfold cvCome at h ⊢
  split
  · rename_i h1
    rw [if_pos h1] at h
    exact absurd rfl h
  · split
    · exact ⟨[], by simp [hs], by simp⟩
    · split
      · exact ⟨[], by simp [hs], by simp⟩
      · obtain ⟨t, e, hg⟩ := data_in (l := l) r (come_in l d) ((cvStart r s).see (cvSpot l r))
        refine ⟨t, ?_, hg⟩
        rw [e]
        have e2 : ((cvStart r s).see (cvSpot l r)).out = (cvStart r s).out := rfl
        rw [e2, hs]
theorem root_end {l : List UInt8} (h : rootE l = 0) : (cvRoot l).p + (cvRoot l).q = (l.length : Int) - 2 := by
  obtain ⟨x, hx⟩ : ∃ x, l.getD (l.length - 1) 0 = x := ⟨_, rfl⟩
  obtain ⟨y, hy⟩ : ∃ x, l.getD (l.length - 2) 0 = x := ⟨_, rfl⟩
  have hr := rootR_ok hx hy h
  unfold cvRoot
  rw [hr]
  simp only
  omega
theorem visit_in {l : List UInt8} {f : Int} (h : cvPartsE l f = 0) : 3 ≤ l.length ∧ ∃ a c t, (cvVisit l f).1.out = [((l.length : Int) - 1, (l.length : Int), 14), ((l.length : Int) - 2, (l.length : Int) - 1, 8), (a, (l.length : Int) - 2, c)] ++ t ∧ (∀ x ∈ t, GoodP l.length x) ∧ GoodP l.length (a, (l.length : Int) - 2, c) := by
  have hr : rootE l = 0 := by
    refine Decidable.byContradiction fun hr => ?_
    unfold cvPartsE at h
    rw [if_pos hr] at h
    exact hr h
  obtain ⟨hok, h3⟩ := root_ok hr
  have h' : (cvVisit l f).2 = 0 := by unfold cvPartsE at h; rw [if_neg (by simp [hr])] at h; exact h
  refine ⟨h3, (cvRoot l).p, cvOwn (cvRoot l).t, ?_⟩
  obtain ⟨t, e, hg⟩ := come_first (l := l) (d := f.toNat) (r := cvRoot l) (s := cvS1 l f) hok (by unfold cvVisit at h'; rw [h']; decide)
  have hso : (cvS1 l f).out = [((l.length : Int) - 1, (l.length : Int), 14), ((l.length : Int) - 2, (l.length : Int) - 1, 8)] := by
    unfold cvS1 CvS.tell
    rw [if_pos (by omega), if_pos (by omega)]
    rfl
  rw [hso, root_end hr] at e
  refine ⟨t, e, hg, ?_⟩
  have h0 := hok.1
  have h1 := hok.2.1
  have h2 := root_end hr
  have h4 := cvOwn_rg (cvRoot l).t
  unfold cvRoot at h2 h4 ⊢
  simp only at h0 h1 h2 h4
  exact ⟨h0, by simp only; omega, by simp only; omega, h4.1, h4.2⟩
theorem parts_good {l : List UInt8} {f : Int} (h : cvPartsE l f = 0) : SortedP (cvParts l f) ∧ (∀ x ∈ cvParts l f, GoodP l.length x) ∧ 3 ≤ (cvParts l f).length ∧ (cvParts l f)[(cvParts l f).length - 1]? = some ((l.length : Int) - 1, (l.length : Int), 14) := by
  obtain ⟨h3, a, c, t, e, hg, hg2⟩ := visit_in h
  have ep : cvParts l f = cvSort (cvVisit l f).1.out := by unfold cvParts; rw [if_neg (by omega)]
  rw [ep]
  have hs := sorted_cvSort (cvVisit l f).1.out
  have hm : ∀ x, x ∈ cvSort (cvVisit l f).1.out ↔ x = ((l.length : Int) - 1, (l.length : Int), 14) ∨ x = ((l.length : Int) - 2, (l.length : Int) - 1, 8) ∨ x = (a, (l.length : Int) - 2, c) ∨ x ∈ t := by
    intro x
    rw [mem_cvSort, e]
    simp
  generalize cvSort (cvVisit l f).1.out = L at hs hm
  have hgood : ∀ x ∈ L, GoodP l.length x := by
    intro x hx
    rcases (hm x).1 hx with rfl | rfl | rfl | hx
    · unfold GoodP; simp only; omega
    · unfold GoodP; simp only; omega
    · exact hg2
    · exact hg x hx
  have m1 := (hm ((l.length : Int) - 1, (l.length : Int), 14)).2 (.inl rfl)
  have m2 := (hm ((l.length : Int) - 2, (l.length : Int) - 1, 8)).2 (.inr (.inl rfl))
  have m3 := (hm (a, (l.length : Int) - 2, c)).2 (.inr (.inr (.inl rfl)))
  refine ⟨hs, hgood, ?_, ?_⟩
  · obtain ⟨i, hi, e1⟩ := List.mem_iff_getElem.1 m1
    obtain ⟨j, hj, e2⟩ := List.mem_iff_getElem.1 m2
    obtain ⟨k, hk, e3⟩ := List.mem_iff_getElem.1 m3
    have hij : i ≠ j := by rintro rfl; rw [e1] at e2; have := congrArg (fun x : P3 => x.2.2) e2; simp only at this; omega
    have hik : i ≠ k := by rintro rfl; rw [e1] at e3; have := congrArg (fun x : P3 => x.2.1) e3; simp only at this; omega
    have hjk : j ≠ k := by rintro rfl; rw [e2] at e3; have := congrArg (fun x : P3 => x.2.1) e3; simp only at this; omega
    omega
  · obtain ⟨i, hi, e1⟩ := List.mem_iff_getElem.1 m1
    have hlast : i = L.length - 1 := by
      refine Decidable.byContradiction fun hne => ?_
      have h1 := List.pairwise_iff_getElem.1 hs i (L.length - 1) hi (by omega) (by omega)
      have h2 := hgood L[L.length - 1] (List.getElem_mem _)
      rw [e1] at h1
      unfold LtP at h1
      unfold GoodP at h2
      simp only at h1
      omega
    subst hlast
    rw [List.getElem?_eq_getElem hi, e1]
set_option maxRecDepth 100000 in
set_option maxHeartbeats 2000000 in
theorem coverrises_spec (A : Option Addr) (n c : Nat) (f : Int) (l : List UInt8) (w : World) (h : IsB w A n l) (hc : n ≤ c) :
    Calls Try.prog 3 #[.slice A n c, .int .i64 f] w fun e w' => e = .returned (.bool true) ∧ Below w.heap.size w w' := by
  have HM := Lib.hid h
  clear h
  go_enter Try.func3, Try.ntmps3
  go_wp2_with fail
  go_at_call 7
  refine (bytes28_spec A n c l _ HM.out hc).mono ?_
  rintro e w1 ⟨A1, n1, c1, rfl, hn1, hO1, hb1⟩
  have hc1 := hO1.cap.1
  have HO := Lib.hid hO1.is
  have HB := Lib.hid hb1
  generalize l.take 1500 = l at HO
  clear hO1 hb1 HM
  go_wp2_with fail
  go_at_call 8
  obtain ⟨g, hg⟩ : ∃ z, min f 2000 = z := ⟨_, rfl⟩
  have hg2 : g ≤ 100000000 := by omega
  rw [hg]
  clear hg
  obtain ⟨E, hE⟩ : ∃ z, cvPartsE l g = z := ⟨_, rfl⟩
  obtain ⟨L, hL⟩ : ∃ z, cvParts l g = z := ⟨_, rfl⟩
  have p1 := parts_spec A1 n1 c1 g l w1 HO.out hc1 (by omega) hg2
  have hgood := parts_good (l := l) (f := g)
  rw [hE, hL] at p1 hgood
  have hL0 : E ≠ 0 → L = [] := fun e => by rw [← hL]; unfold cvParts; rw [hE, if_pos e]
  have hln := HO.out.1
  rw [hln] at hgood
  refine p1.mono ?_
  rintro e w2 ⟨A2, k2, c2, rfl, hO2, hb2⟩
  have HO2 := Lib.hid hO2.is
  have HG := Lib.hid hgood
  have HL0 := Lib.hid hL0
  have hmx : k2 ≤ 9223372036854775807 := by have := hO2.cap; simp only [maxLen] at this; omega
  have hLk : L.length = k2 := hO2.1
  replace HB := Lib.hid (pure_below HB.out hb2)
  clear hO2 hb2 p1 hgood hL0 HO hE hL hln hg2
  by_cases hE : E = 0
  · subst hE
    obtain ⟨hs, hgd, h3, hlast⟩ := HG.out rfl
    have HS := Lib.hid hs
    have HGD := Lib.hid hgd
    have HLA := Lib.hid hlast
    have HK := Lib.hid hLk
    have hk3 : 3 ≤ k2 := by omega
    clear hs hgd h3 hlast HG HL0 hLk
    go_wp2_with fail
    go_loopw [8] (fun i wr => ∃ k : Nat, k ≤ k2 ∧ i = .int .i64 k ∧ Below w.heap.size w wr ∧ IsP wr A2 k2 L) (fun i _ => k2 - (intOf i).toNat)
    case atStart => exact ⟨0, by omega, rfl, HB.out, HO2.out⟩
    case round =>
      clear HB HO2
      obtain ⟨k, hk, rfl, hb, h1⟩ := hrel
      have HB := Lib.hid hb
      have HI := Lib.hid h1
      clear hb h1
      by_cases hkn : k < k2
      · have hk0 : (0 : Int) ≤ k := by omega
        have hkI : (k : Int) < k2 := by omega
        have hwk : IntKind.i64.wrap ((k : Int) + 1) = (k : Int) + 1 := IntWalk.i64_in _ (by omega)
        obtain ⟨b2, o2, e2, h2⟩ := isp_at HI.out hkn
        subst e2
        obtain ⟨⟨x, y, z⟩, hx⟩ : ∃ x, L[k]? = some x := ⟨_, List.getElem?_eq_getElem (by rw [HK.out]; exact hkn)⟩
        obtain ⟨a0, a1, a2⟩ := h2 x y z hx
        have hgd := HGD.out (x, y, z) (List.mem_of_getElem? hx)
        unfold GoodP at hgd
        obtain ⟨g1, g2, g3, g4, g5⟩ := hgd
        simp only at g1 g2 g3 g4 g5
        have HX := Lib.hid hx
        clear h2 hx
        go_upto_region 9 with fail
        have HXB := Lib.hid (Blk.new wr 30 #[.int .i64 x, .int .i64 y, .int .i64 z])
        replace HB := Lib.hid (HB.out.alloc HB.out.size (.cells #[.int .i64 x, .int .i64 y, .int .i64 z] 30))
        replace HI := Lib.hid (HI.out.alloc (.cells #[.int .i64 x, .int .i64 y, .int .i64 z] 30))
        clear a0 a1 a2
        generalize wr.alloc (.cells #[.int .i64 x, .int .i64 y, .int .i64 z] 30) = wa at HXB HB HI ⊢
        generalize wr.heap.size = bx at HXB ⊢
        have v0 : wa.cell? ⟨bx, 0, none⟩ = some (.int .i64 x) := HXB.out.cell 0
        have v1 : wa.cell? ⟨bx, 1, none⟩ = some (.int .i64 y) := HXB.out.cell 1
        have v2 : wa.cell? ⟨bx, 2, none⟩ = some (.int .i64 z) := HXB.out.cell 2
        have t1 : ¬ x < 0 := by omega
        have t2 : ¬ y ≤ x := by omega
        have t3 : ¬ (n1 : Int) < y := by omega
        have t4 : ¬ z < 1 := by omega
        have t5 : ¬ 14 < z := by omega
        by_cases hk0' : k = 0
        · subst hk0'
          go_wp2_with fail
          go_roundw
          case rel => exact ⟨1, by omega, by go_num, HB.out, HI.out⟩
          case measure => simp [intOf]; omega
        · obtain ⟨j, rfl⟩ : ∃ j, k = j + 1 := ⟨k - 1, by omega⟩
          have hj : j < k2 := by omega
          have hj0 : (0 : Int) ≤ j := by omega
          have hjI : (j : Int) < k2 := by omega
          have hwj : IntKind.i64.wrap (j : Int) = (j : Int) := IntWalk.i64_in _ (by omega)
          have hne : (((j : Int) + 1) == 0) = false := beq_eq_false_iff_ne.mpr (by omega)
          obtain ⟨b3, o3, e3, h3⟩ := isp_at HI.out hj
          injection e3 with e3
          injection e3 with e3 e4
          subst e3 e4
          obtain ⟨⟨x', y', z'⟩, hx'⟩ : ∃ x, L[j]? = some x := ⟨_, List.getElem?_eq_getElem (by rw [HK.out]; exact hj)⟩
          obtain ⟨a0, a1, a2⟩ := h3 x' y' z' hx'
          have hlt : LtP (x', y', z') (x, y, z) := by
            have h1 := HX.out
            obtain ⟨i1, e1⟩ := List.getElem?_eq_some_iff.1 hx'
            obtain ⟨i2, e2⟩ := List.getElem?_eq_some_iff.1 h1
            have := List.pairwise_iff_getElem.1 HS.out j (j + 1) i1 i2 (by omega)
            rw [e1, e2] at this
            exact this
          have HLT := Lib.hid hlt
          clear h3 hx' hlt hk0' g1 g2 g3 g4 g5
          go_upto_region 13 with fail
          have HYB := Lib.hid (Blk.new wa 30 #[.int .i64 x', .int .i64 y', .int .i64 z'])
          replace HXB := Lib.hid (HXB.out.alloc (.cells #[.int .i64 x', .int .i64 y', .int .i64 z'] 30))
          replace HB := Lib.hid (HB.out.alloc HB.out.size (.cells #[.int .i64 x', .int .i64 y', .int .i64 z'] 30))
          replace HI := Lib.hid (HI.out.alloc (.cells #[.int .i64 x', .int .i64 y', .int .i64 z'] 30))
          clear a0 a1 a2 v0 v1 v2
          generalize wa.alloc (.cells #[.int .i64 x', .int .i64 y', .int .i64 z'] 30) = wb at HXB HYB HB HI ⊢
          generalize wa.heap.size = bY at HYB ⊢
          have v0 : wb.cell? ⟨bx, 0, none⟩ = some (.int .i64 x) := HXB.out.cell 0
          have v1 : wb.cell? ⟨bx, 1, none⟩ = some (.int .i64 y) := HXB.out.cell 1
          have v2 : wb.cell? ⟨bx, 2, none⟩ = some (.int .i64 z) := HXB.out.cell 2
          have q0 : wb.cell? ⟨bY, 0, none⟩ = some (.int .i64 x') := HYB.out.cell 0
          have q1 : wb.cell? ⟨bY, 1, none⟩ = some (.int .i64 y') := HYB.out.cell 1
          have q2 : wb.cell? ⟨bY, 2, none⟩ = some (.int .i64 z') := HYB.out.cell 2
          have hor : x' < x ∨ (x' = x ∧ (y' < y ∨ (y' = y ∧ z' < z))) := HLT.out
          clear HLT t1 t2 t3 t4 t5
          rcases hor with h1 | ⟨rfl, h1 | ⟨rfl, h1⟩⟩
          · have r1 : ¬ x < x' := by omega
            have r2 : (x' == x) = false := beq_eq_false_iff_ne.mpr (by omega)
            clear h1
            go_wp2_with fail
            go_roundw
            case rel => exact ⟨j + 1 + 1, by omega, by go_num, HB.out, HI.out⟩
            case measure => simp [intOf]; omega
          · have r1 : ¬ y < y' := by omega
            have r2 : (y' == y) = false := beq_eq_false_iff_ne.mpr (by omega)
            clear h1
            go_wp2_with fail
            go_roundw
            case rel => exact ⟨j + 1 + 1, by omega, by go_num, HB.out, HI.out⟩
            case measure => simp [intOf]; omega
          · have r1 : ¬ z ≤ z' := by omega
            clear h1
            go_wp2_with fail
            go_roundw
            case rel => exact ⟨j + 1 + 1, by omega, by go_num, HB.out, HI.out⟩
            case measure => simp [intOf]; omega
      · obtain rfl : k = k2 := by omega
        obtain ⟨m, rfl⟩ : ∃ m, k = m + 1 := ⟨k - 1, by omega⟩
        have hla := HLA.out
        rw [HK.out, Nat.add_sub_cancel] at hla
        obtain ⟨b2, o2, e2, h2⟩ := isp_at HI.out (show m < m + 1 by omega)
        subst e2
        obtain ⟨a0, a1, a2⟩ := h2 _ _ _ hla
        have hm3 : (3 : Int) ≤ (m : Int) + 1 := by omega
        have hm0 : (0 : Int) ≤ m := by omega
        have hmI : (m : Int) < (m : Int) + 1 := by omega
        have hwm : IntKind.i64.wrap (m : Int) = (m : Int) := IntWalk.i64_in _ (by omega)
        have hwn : IntKind.i64.wrap ((n1 : Int) - 1) = (n1 : Int) - 1 := IntWalk.i64_in _ (by omega)
        have heq := part_eql ((n1 : Int) - 1, (n1 : Int), 14) ((n1 : Int) - 1, (n1 : Int), 14) true (by simp)
        simp only at heq
        have KX := Lib.hid h2
        clear h2 hla hkn hk
        obtain ⟨wz, rfl⟩ : ∃ wo : World, wo = wr := ⟨_, rfl⟩
        go_wp2_with fail
        go_region_held3 (fun w' => w'.cell? ⟨b2, o2 + m * 3, none⟩ = some (.int .i64 ((n1 : Int) - 1)) ∧ w'.cell? ⟨b2, o2 + m * 3 + 1, none⟩ = some (.int .i64 n1) ∧ w'.cell? ⟨b2, o2 + m * 3 + 2, none⟩ = some (.int .i64 14)) (first | with_reducible exact ⟨a0, a1, a2⟩ | with_reducible exact ⟨ldrew a0, ldrew a1, ldrew a2⟩)
          (first
            | (go_at_call 10; (with_reducible refine (part28_spec ((n1 : Int) - 1) n1 14 _).mono ?_); rintro e w5 ⟨rfl, hb⟩; replace a0 := cell_pure hb (ldrew a0); replace a1 := cell_pure hb (ldrew a1); replace a2 := cell_pure hb (ldrew a2); replace HB := Lib.hid (pure_below (below_drew wz |> pure_below HB.out) hb); clear hb)
            | (go_at_call 9; (with_reducible refine (cvworks_spec _).mono ?_); rintro e w6 ⟨rfl, hb⟩; replace a0 := cell_pure hb a0; replace a1 := cell_pure hb a1; replace a2 := cell_pure hb a2; replace HB := Lib.hid (pure_below HB.out hb); clear hb))
        go_wp2_with fail
        go_ret
        exact ⟨rfl, HB.out⟩
  · obtain rfl : L = [] := HL0.out hE
    obtain rfl : k2 = 0 := by rw [← hLk]; rfl
    have hne : (E != 0) = true := by simpa using hE
    clear hE HG HL0
    go_wp2_with fail
    go_at_call 9
    refine (cvworks_spec _).mono ?_
    rintro e w4 ⟨rfl, hb⟩
    replace HB := Lib.hid (pure_below HB.out hb)
    clear hb
    go_wp2
    go_ret
    exact ⟨rfl, HB.out⟩
end Go.Proofs.Ytejalfjeihlpeaa
