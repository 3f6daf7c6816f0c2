/-
  Package list: the property ListWithin.
-/
import Derived.Test.YtaigofpipoimkaaLiM
import Derived.Test.YtaigofpipoimkaaLiN
namespace Go.Proofs.Ytaigofpipoimkaa
open Go.RowKit Go.Acc
set_option maxRecDepth 100000 in
set_option maxHeartbeats 4000000 in
theorem listwithin_spec (A : Option Addr) (n c : Nat) (p q t v : Int) (l : List UInt8) (w : World) (h : IsB w A n l) (hc : n ≤ c) :
    Calls Try.prog 8 #[.slice A n c, .agg #[.int .i64 p, .int .i64 q, .int .i64 t, .int .i64 v]] w fun e w' => e = .returned (.bool true) ∧ Below w.heap.size w w' := by
  obtain ⟨M, hMn, hMB, hmin, hcut⟩ := cut_facts A n c 600 600 rfl hc
  have HM := Lib.hid ((h.take bc_len hMn).alloc (.cells #[.int .i64 p, .int .i64 q, .int .i64 t, .int .i64 v] 23))
  have HB := Lib.hid ((Below.refl w.heap.size w).alloc (Nat.le_refl _) (.cells #[.int .i64 p, .int .i64 q, .int .i64 t, .int .i64 v] 23))
  have HX := Lib.hid (Blk.new w 23 #[.int .i64 p, .int .i64 q, .int .i64 t, .int .i64 v])
  clear h
  go_enter Try.func8, Try.ntmps8
  go_wp2_with fail
  go_at_call 15
  refine (copyb_spec A M c (l.take M) _ HM.out (by omega)).mono ?_
  rintro e w1 ⟨A1, n1, c1, rfl, hO1, hb1⟩
  obtain rfl : M = n1 := by rw [← hO1.1, HM.out.1]
  have hlen := HM.out.1
  generalize l.take M = l at hO1 hlen HM
  subst hlen
  replace HB := Lib.hid (pure_below HB.out hb1)
  have HO := Lib.hid hO1.is
  replace HX := Lib.hid (HX.out.pure hb1)
  have hc1 := hO1.cap.1
  have hM40 : l.length ≤ 1099511627776 := by omega
  clear hO1 hb1 HM hmin hcut
  have x0 := cell0 HX.out; have x1 := cell1 HX.out; have x2 := cell2 HX.out; have x3 := cell3 HX.out
  obtain ⟨nf, hnf⟩ : ∃ x, lsFrom l p q t v = x := ⟨_, rfl⟩
  obtain ⟨na, hna⟩ : ∃ x, lsAt l p q t v = x := ⟨_, rfl⟩
  obtain ⟨nt, hnt⟩ : ∃ x, lsTo l p q t v = x := ⟨_, rfl⟩
  obtain ⟨nl, hnl⟩ : ∃ x, lsLen l p q t v = x := ⟨_, rfl⟩
  obtain ⟨ne, hne⟩ : ∃ x, lsE l p q t v = x := ⟨_, rfl⟩
  have HNF := Lib.hid (show (lsFrom l p q t v : Int) = nf by rw [hnf])
  have HNA := Lib.hid (show (lsAt l p q t v : Int) = na by rw [hna])
  have HNT := Lib.hid (show (lsTo l p q t v : Int) = nt by rw [hnt])
  have HNL := Lib.hid (show (lsLen l p q t v : Int) = nl by rw [hnl])
  have HNAN := Lib.hid hna
  have HNLN := Lib.hid hnl
  have HNE := Lib.hid hne
  by_cases he : ne = 0
  · subst he
    obtain ⟨b1, b2, b3, b4, b5, hL⟩ : nf ≤ na ∧ na + (nl * v.toNat + nl * tgs t) = nt ∧ nt ≤ l.length ∧ (v = 1 ∨ v = 2 ∨ v = 4 ∨ v = 8) ∧ (na : Int) % v = 0 ∧ isL t = true := by
      obtain ⟨_, _, hW, _⟩ := ls_ok hne
      have hw := isW_iff.1 hW
      obtain ⟨V, rfl⟩ : ∃ V : Nat, v = V := ⟨v.toNat, by omega⟩
      have := ls_within hne
      rw [hnf, hna, hnt, hnl] at this
      rw [Int.toNat_natCast]
      exact ⟨this.1, this.2.1, this.2.2.1, hw, this.2.2.2.2⟩
    obtain ⟨V, rfl⟩ : ∃ V : Nat, v = V := ⟨v.toNat, by omega⟩
    rw [Int.toNat_natCast] at b2
    have hV1 : 1 ≤ V := by omega
    have hV8 : V ≤ 8 := by omega
    have hvz : (V == 0) = false := beq_eq_false_iff_ne.mpr (by omega)
    have hk1 : decide (na < nf) = false := decide_eq_false (by omega)
    have hk2 : decide (nt < na) = false := decide_eq_false (by omega)
    have hk3 : decide (l.length < nt) = false := decide_eq_false (by omega)
    have hk4 : ((na : Int) % (V : Int) != 0) = false := by simpa using b5
    have HLS := Lib.hid hne
    have HPR := Lib.hid (show na + nl * V ≤ l.length by omega)
    have hp1 : (nl : Int) * (V : Int) ≤ 1099511627776 := by rw [← Int.natCast_mul]; omega
    have hp2 : 0 ≤ (nl : Int) * (V : Int) := by rw [← Int.natCast_mul]; omega
    have hnl6 : nl ≤ 600 := by
      have : nl ≤ nl * V := Nat.le_mul_of_pos_right _ (by omega)
      omega
    have hna6 : na ≤ 600 := by omega
    have htg := isl_vec hL
    go_wp2_with fail
    go_at_call 33
    refine (lspan_is A1 l.length c1 p q t V nf na nt 0 l _ HO.out hc1 hM40 HNF.out HNA.out HNT.out HNE.out).mono ?_
    rintro e wn ⟨rfl, hb⟩
    clear x0 x1 x2 x3
    replace HB := Lib.hid (pure_below HB.out hb); replace HO := Lib.hid (HO.out.pure hb); replace HX := Lib.hid (HX.out.pure hb)
    clear hb
    have x0 := cell0 HX.out; have x1 := cell1 HX.out; have x2 := cell2 HX.out; have x3 := cell3 HX.out
    go_wp2_with fail
    go_at_call 35
    refine (llen_is A1 l.length c1 p q t V nl 0 l _ HO.out hc1 hM40 HNL.out HNE.out).mono ?_
    rintro e wn ⟨rfl, hb⟩
    clear x0 x1 x2 x3
    replace HB := Lib.hid (pure_below HB.out hb); replace HO := Lib.hid (HO.out.pure hb); replace HX := Lib.hid (HX.out.pure hb)
    clear hb
    have x0 := cell0 HX.out; have x1 := cell1 HX.out; have x2 := cell2 HX.out; have x3 := cell3 HX.out
    cases hvt : vecT t with
    | true =>
      have HVT := Lib.hid hvt
      rw [hvt] at htg
      rw [htg] at b2
      have hk5 : ((na : Int) + (nl : Int) * (V : Int) != (nt : Int)) = false := by
        rw [bne_eq_false_iff_eq, ← Int.natCast_mul]
        have : nl * (if true = true then 0 else 1) = 0 := Nat.mul_zero _
        omega
      clear hnf hna hnt hnl hne b1 b2 b3 b4 b5 hL htg hvt
      go_wp2_with fail
      go_at_call 42
      refine (elem_spec t _).mono ?_
      rintro e wn ⟨rfl, hb⟩
      clear x0 x1 x2 x3
      replace HB := Lib.hid (pure_below HB.out hb); replace HO := Lib.hid (HO.out.pure hb); replace HX := Lib.hid (HX.out.pure hb)
      clear hb
      have x0 := cell0 HX.out; have x1 := cell1 HX.out; have x2 := cell2 HX.out; have x3 := cell3 HX.out
      rw [HVT.out]
      clear x0 x1 x2 x3
      have x0 := cell0 HX.out; have x1 := cell1 HX.out; have x2 := cell2 HX.out; have x3 := cell3 HX.out
      go_wp2_with fail
      clear x0 x1 x2 x3 hk1 hk2 hk3 hk4 hk5
      go_loopw [16] (fun k wr => ∃ j : Nat, j ≤ nl ∧ k = .int .i64 j ∧ Below w.heap.size w wr ∧ IsB wr A1 l.length l ∧ Blk wr w.heap.size 23 #[.int .i64 p, .int .i64 q, .int .i64 t, .int .i64 V]) (fun k _ => (nl - (intOf k)).toNat)
      case atStart => exact ⟨0, by omega, rfl, HB.out, HO.out, HX.out⟩
      case round =>
        obtain ⟨j, hj, rfl, hB', hO', hX'⟩ := hrel
        clear HB HO HX
        have HB := Lib.hid hB'
        have HO := Lib.hid hO'
        have HX := Lib.hid hX'
        clear hB' hO' hX'
        by_cases hlt : j < nl
        · obtain ⟨a, ha⟩ : ∃ x, atP l p q t V j = x := ⟨_, rfl⟩
          obtain ⟨b, hb⟩ : ∃ x, atQ l p q t V j = x := ⟨_, rfl⟩
          obtain ⟨d, hd⟩ : ∃ x, atT l p q t V j = x := ⟨_, rfl⟩
          obtain ⟨g, hg⟩ : ∃ x, atV l p q t V j = x := ⟨_, rfl⟩
          obtain ⟨er, her⟩ : ∃ x, atE l p q t V j = x := ⟨_, rfl⟩
          have hem := elem_may HLS.out (show j < lsLen l p q t V by rw [HNLN.out]; exact hlt)
          rw [ha, hb, hd, hg, her, HNAN.out, HVT.out] at hem
          have H1 := Lib.hid ha
          have H2 := Lib.hid hb
          have H3 := Lib.hid hd
          have H4 := Lib.hid hg
          have H5 := Lib.hid her
          clear ha hb hd hg her
          have hq1 : (j : Int) * (V : Int) ≤ 1099511627776 := by
            have h1 := Nat.mul_le_mul_right V (show j ≤ nl by omega)
            have h2 := HPR.out
            rw [← Int.natCast_mul]
            omega
          have hq2 : 0 ≤ (j : Int) * (V : Int) := by rw [← Int.natCast_mul]; omega
          rcases hem with ⟨rfl, hv⟩ | ⟨rfl, rfl, rfl, hm, hty⟩
          · first
              | (exfalso; exact absurd hv (by decide))
              | skip
            all_goals
              clear hv
              have x0 := cell0 HX.out; have x1 := cell1 HX.out; have x2 := cell2 HX.out; have x3 := cell3 HX.out
              go_wp2_with fail
              go_at_call 37
              refine (lat_is A1 l.length c1 p q t V j a b d g 20 l _ HO.out hc1 hM40 H1.out H2.out H3.out H4.out H5.out).mono ?_
              rintro e wn ⟨rfl, hb⟩
              clear x0 x1 x2 x3
              replace HB := Lib.hid (pure_below HB.out hb); replace HO := Lib.hid (HO.out.pure hb); replace HX := Lib.hid (HX.out.pure hb)
              clear hb
              have x0 := cell0 HX.out; have x1 := cell1 HX.out; have x2 := cell2 HX.out; have x3 := cell3 HX.out
              replace HB := Lib.hid (HB.out.alloc HB.out.size (.cells #[.int .i64 a, .int .i64 b, .int .i64 d, .int .i64 g] 23))
              replace HO := Lib.hid (HO.out.alloc (.cells #[.int .i64 a, .int .i64 b, .int .i64 d, .int .i64 g] 23))
              replace HX := Lib.hid (HX.out.alloc (.cells #[.int .i64 a, .int .i64 b, .int .i64 d, .int .i64 g] 23))
              clear x0 x1 x2 x3
              go_wp2
              go_roundw
              case rel => exact ⟨j + 1, by omega, by go_num, HB.out, HO.out, HX.out⟩
              case measure => simp [intOf]; omega
          · have HMM := Lib.hid hm
            have HTY := Lib.hid hty
            clear hm hty
            (obtain ⟨rfl, rfl⟩ := HTY.out rfl)
            have x0 := cell0 HX.out; have x1 := cell1 HX.out; have x2 := cell2 HX.out; have x3 := cell3 HX.out
            go_wp2_with fail
            go_at_call 37
            refine (lat_is A1 l.length c1 p q t V j ((na : Int) + (j : Int) * (V : Int)) V (elemT t) V 0 l _ HO.out hc1 hM40 H1.out H2.out H3.out H4.out H5.out).mono ?_
            rintro e wn ⟨rfl, hb⟩
            clear x0 x1 x2 x3
            replace HB := Lib.hid (pure_below HB.out hb); replace HO := Lib.hid (HO.out.pure hb); replace HX := Lib.hid (HX.out.pure hb)
            clear hb
            have x0 := cell0 HX.out; have x1 := cell1 HX.out; have x2 := cell2 HX.out; have x3 := cell3 HX.out
            have HK := Lib.hid (Blk.new wn 23 #[.int .i64 ((na : Int) + (j : Int) * (V : Int)), .int .i64 V, .int .i64 (elemT t), .int .i64 V])
            replace HB := Lib.hid (HB.out.alloc HB.out.size (.cells #[.int .i64 ((na : Int) + (j : Int) * (V : Int)), .int .i64 V, .int .i64 (elemT t), .int .i64 V] 23))
            replace HO := Lib.hid (HO.out.alloc (.cells #[.int .i64 ((na : Int) + (j : Int) * (V : Int)), .int .i64 V, .int .i64 (elemT t), .int .i64 V] 23))
            replace HX := Lib.hid (HX.out.alloc (.cells #[.int .i64 ((na : Int) + (j : Int) * (V : Int)), .int .i64 V, .int .i64 (elemT t), .int .i64 V] 23))
            clear x0 x1 x2 x3
            have x0 := cell0 HX.out; have x1 := cell1 HX.out; have x2 := cell2 HX.out; have x3 := cell3 HX.out
            go_wp2_with fail
            go_at_call 43
            refine (may_spec A1 l.length c1 _ V _ _ _ (by omega)).mono ?_
            rw [HMM.out]
            rintro e wm ⟨rfl, hb⟩
            clear x0 x1 x2 x3
            replace HB := Lib.hid (pure_below HB.out hb); replace HO := Lib.hid (HO.out.pure hb); replace HX := Lib.hid (HX.out.pure hb)
            replace HK := Lib.hid (HK.out.pure hb)
            clear hb
            have x0 := cell0 HX.out; have x1 := cell1 HX.out; have x2 := cell2 HX.out; have x3 := cell3 HX.out
            have y0 := cell0 HK.out
            have y1 := cell1 HK.out
            have y2 := cell2 HK.out
            have y3 := cell3 HK.out
            go_wp2
            go_roundw
            case rel => exact ⟨j + 1, by omega, by go_num, HB.out, HO.out, HX.out⟩
            case measure => simp [intOf]; omega
        · obtain rfl : j = nl := by omega
          have hlo : (lsLen l p q t V : Int) ≤ j := by rw [HNLN.out]; omega
          have hae1 : atE l p q t V j = 6 := at_out HLS.out (.inr hlo)
          have hae2 : atE l p q t V (-1) = 6 := at_out HLS.out (.inl (by decide))
          obtain ⟨a1, a2, a3, a4⟩ := at_none hae1 (by decide)
          obtain ⟨b1, b2, b3, b4⟩ := at_none hae2 (by decide)
          have H1 := Lib.hid a1
          have H2 := Lib.hid a2
          have H3 := Lib.hid a3
          have H4 := Lib.hid a4
          have H5 := Lib.hid hae1
          have J1 := Lib.hid b1
          have J2 := Lib.hid b2
          have J3 := Lib.hid b3
          have J4 := Lib.hid b4
          have J5 := Lib.hid hae2
          clear a1 a2 a3 a4 b1 b2 b3 b4 hae1 hae2 hlo
          have x0 := cell0 HX.out; have x1 := cell1 HX.out; have x2 := cell2 HX.out; have x3 := cell3 HX.out
          go_wp2_with fail
          go_at_call 41
          refine (gives_yes A1 l.length c1 p q t V j 0 0 0 0 6 l _ HO.out hc1 hM40 H1.out H2.out H3.out H4.out H5.out).mono ?_
          rintro e wn ⟨rfl, hb⟩
          clear x0 x1 x2 x3
          replace HB := Lib.hid (pure_below HB.out hb); replace HO := Lib.hid (HO.out.pure hb); replace HX := Lib.hid (HX.out.pure hb)
          clear hb
          have x0 := cell0 HX.out; have x1 := cell1 HX.out; have x2 := cell2 HX.out; have x3 := cell3 HX.out
          go_wp2_with fail
          go_at_call 41
          refine (gives_yes A1 l.length c1 p q t V (-1) 0 0 0 0 6 l _ HO.out hc1 hM40 J1.out J2.out J3.out J4.out J5.out).mono ?_
          rintro e wn ⟨rfl, hb⟩
          clear x0 x1 x2 x3
          replace HB := Lib.hid (pure_below HB.out hb); replace HO := Lib.hid (HO.out.pure hb); replace HX := Lib.hid (HX.out.pure hb)
          clear hb
          have x0 := cell0 HX.out; have x1 := cell1 HX.out; have x2 := cell2 HX.out; have x3 := cell3 HX.out
          clear x0 x1 x2 x3
          go_wp2_with fail
          go_at_call 40
          refine (liworks_spec _).mono ?_
          rintro e w9 ⟨rfl, hb⟩
          replace HB := Lib.hid (pure_below HB.out hb)
          clear hb
          go_wp2
          go_ret
          exact ⟨rfl, HB.out⟩
    | false =>
      have HVT := Lib.hid hvt
      rw [hvt] at htg
      rw [htg] at b2
      have hk5 : ((na : Int) + (nl : Int) * (V : Int) + (nl : Int) != (nt : Int)) = false := by
        rw [bne_eq_false_iff_eq, ← Int.natCast_mul]
        have : nl * (if false = true then 0 else 1) = nl := Nat.mul_one _
        omega
      clear hnf hna hnt hnl hne b1 b2 b3 b4 b5 hL htg hvt
      go_wp2_with fail
      go_at_call 42
      refine (elem_spec t _).mono ?_
      rintro e wn ⟨rfl, hb⟩
      clear x0 x1 x2 x3
      replace HB := Lib.hid (pure_below HB.out hb); replace HO := Lib.hid (HO.out.pure hb); replace HX := Lib.hid (HX.out.pure hb)
      clear hb
      have x0 := cell0 HX.out; have x1 := cell1 HX.out; have x2 := cell2 HX.out; have x3 := cell3 HX.out
      rw [HVT.out]
      clear x0 x1 x2 x3
      have x0 := cell0 HX.out; have x1 := cell1 HX.out; have x2 := cell2 HX.out; have x3 := cell3 HX.out
      go_wp2_with fail
      clear x0 x1 x2 x3 hk1 hk2 hk3 hk4 hk5
      go_loopw [16] (fun k wr => ∃ j : Nat, j ≤ nl ∧ k = .int .i64 j ∧ Below w.heap.size w wr ∧ IsB wr A1 l.length l ∧ Blk wr w.heap.size 23 #[.int .i64 p, .int .i64 q, .int .i64 t, .int .i64 V]) (fun k _ => (nl - (intOf k)).toNat)
      case atStart => exact ⟨0, by omega, rfl, HB.out, HO.out, HX.out⟩
      case round =>
        obtain ⟨j, hj, rfl, hB', hO', hX'⟩ := hrel
        clear HB HO HX
        have HB := Lib.hid hB'
        have HO := Lib.hid hO'
        have HX := Lib.hid hX'
        clear hB' hO' hX'
        by_cases hlt : j < nl
        · obtain ⟨a, ha⟩ : ∃ x, atP l p q t V j = x := ⟨_, rfl⟩
          obtain ⟨b, hb⟩ : ∃ x, atQ l p q t V j = x := ⟨_, rfl⟩
          obtain ⟨d, hd⟩ : ∃ x, atT l p q t V j = x := ⟨_, rfl⟩
          obtain ⟨g, hg⟩ : ∃ x, atV l p q t V j = x := ⟨_, rfl⟩
          obtain ⟨er, her⟩ : ∃ x, atE l p q t V j = x := ⟨_, rfl⟩
          have hem := elem_may HLS.out (show j < lsLen l p q t V by rw [HNLN.out]; exact hlt)
          rw [ha, hb, hd, hg, her, HNAN.out, HVT.out] at hem
          have H1 := Lib.hid ha
          have H2 := Lib.hid hb
          have H3 := Lib.hid hd
          have H4 := Lib.hid hg
          have H5 := Lib.hid her
          clear ha hb hd hg her
          have hq1 : (j : Int) * (V : Int) ≤ 1099511627776 := by
            have h1 := Nat.mul_le_mul_right V (show j ≤ nl by omega)
            have h2 := HPR.out
            rw [← Int.natCast_mul]
            omega
          have hq2 : 0 ≤ (j : Int) * (V : Int) := by rw [← Int.natCast_mul]; omega
          rcases hem with ⟨rfl, hv⟩ | ⟨rfl, rfl, rfl, hm, hty⟩
          · first
              | (exfalso; exact absurd hv (by decide))
              | skip
            all_goals
              clear hv
              have x0 := cell0 HX.out; have x1 := cell1 HX.out; have x2 := cell2 HX.out; have x3 := cell3 HX.out
              go_wp2_with fail
              go_at_call 37
              refine (lat_is A1 l.length c1 p q t V j a b d g 20 l _ HO.out hc1 hM40 H1.out H2.out H3.out H4.out H5.out).mono ?_
              rintro e wn ⟨rfl, hb⟩
              clear x0 x1 x2 x3
              replace HB := Lib.hid (pure_below HB.out hb); replace HO := Lib.hid (HO.out.pure hb); replace HX := Lib.hid (HX.out.pure hb)
              clear hb
              have x0 := cell0 HX.out; have x1 := cell1 HX.out; have x2 := cell2 HX.out; have x3 := cell3 HX.out
              replace HB := Lib.hid (HB.out.alloc HB.out.size (.cells #[.int .i64 a, .int .i64 b, .int .i64 d, .int .i64 g] 23))
              replace HO := Lib.hid (HO.out.alloc (.cells #[.int .i64 a, .int .i64 b, .int .i64 d, .int .i64 g] 23))
              replace HX := Lib.hid (HX.out.alloc (.cells #[.int .i64 a, .int .i64 b, .int .i64 d, .int .i64 g] 23))
              clear x0 x1 x2 x3
              go_wp2
              go_roundw
              case rel => exact ⟨j + 1, by omega, by go_num, HB.out, HO.out, HX.out⟩
              case measure => simp [intOf]; omega
          · have HMM := Lib.hid hm
            have HTY := Lib.hid hty
            clear hm hty
            skip
            have x0 := cell0 HX.out; have x1 := cell1 HX.out; have x2 := cell2 HX.out; have x3 := cell3 HX.out
            go_wp2_with fail
            go_at_call 37
            refine (lat_is A1 l.length c1 p q t V j ((na : Int) + (j : Int) * (V : Int)) V d g 0 l _ HO.out hc1 hM40 H1.out H2.out H3.out H4.out H5.out).mono ?_
            rintro e wn ⟨rfl, hb⟩
            clear x0 x1 x2 x3
            replace HB := Lib.hid (pure_below HB.out hb); replace HO := Lib.hid (HO.out.pure hb); replace HX := Lib.hid (HX.out.pure hb)
            clear hb
            have x0 := cell0 HX.out; have x1 := cell1 HX.out; have x2 := cell2 HX.out; have x3 := cell3 HX.out
            have HK := Lib.hid (Blk.new wn 23 #[.int .i64 ((na : Int) + (j : Int) * (V : Int)), .int .i64 V, .int .i64 d, .int .i64 g])
            replace HB := Lib.hid (HB.out.alloc HB.out.size (.cells #[.int .i64 ((na : Int) + (j : Int) * (V : Int)), .int .i64 V, .int .i64 d, .int .i64 g] 23))
            replace HO := Lib.hid (HO.out.alloc (.cells #[.int .i64 ((na : Int) + (j : Int) * (V : Int)), .int .i64 V, .int .i64 d, .int .i64 g] 23))
            replace HX := Lib.hid (HX.out.alloc (.cells #[.int .i64 ((na : Int) + (j : Int) * (V : Int)), .int .i64 V, .int .i64 d, .int .i64 g] 23))
            clear x0 x1 x2 x3
            have x0 := cell0 HX.out; have x1 := cell1 HX.out; have x2 := cell2 HX.out; have x3 := cell3 HX.out
            go_wp2_with fail
            go_at_call 43
            refine (may_spec A1 l.length c1 _ V _ _ _ (by omega)).mono ?_
            rw [HMM.out]
            rintro e wm ⟨rfl, hb⟩
            clear x0 x1 x2 x3
            replace HB := Lib.hid (pure_below HB.out hb); replace HO := Lib.hid (HO.out.pure hb); replace HX := Lib.hid (HX.out.pure hb)
            replace HK := Lib.hid (HK.out.pure hb)
            clear hb
            have x0 := cell0 HX.out; have x1 := cell1 HX.out; have x2 := cell2 HX.out; have x3 := cell3 HX.out
            have y0 := cell0 HK.out
            have y1 := cell1 HK.out
            have y2 := cell2 HK.out
            have y3 := cell3 HK.out
            go_wp2
            go_roundw
            case rel => exact ⟨j + 1, by omega, by go_num, HB.out, HO.out, HX.out⟩
            case measure => simp [intOf]; omega
        · obtain rfl : j = nl := by omega
          have hlo : (lsLen l p q t V : Int) ≤ j := by rw [HNLN.out]; omega
          have hae1 : atE l p q t V j = 6 := at_out HLS.out (.inr hlo)
          have hae2 : atE l p q t V (-1) = 6 := at_out HLS.out (.inl (by decide))
          obtain ⟨a1, a2, a3, a4⟩ := at_none hae1 (by decide)
          obtain ⟨b1, b2, b3, b4⟩ := at_none hae2 (by decide)
          have H1 := Lib.hid a1
          have H2 := Lib.hid a2
          have H3 := Lib.hid a3
          have H4 := Lib.hid a4
          have H5 := Lib.hid hae1
          have J1 := Lib.hid b1
          have J2 := Lib.hid b2
          have J3 := Lib.hid b3
          have J4 := Lib.hid b4
          have J5 := Lib.hid hae2
          clear a1 a2 a3 a4 b1 b2 b3 b4 hae1 hae2 hlo
          have x0 := cell0 HX.out; have x1 := cell1 HX.out; have x2 := cell2 HX.out; have x3 := cell3 HX.out
          go_wp2_with fail
          go_at_call 41
          refine (gives_yes A1 l.length c1 p q t V j 0 0 0 0 6 l _ HO.out hc1 hM40 H1.out H2.out H3.out H4.out H5.out).mono ?_
          rintro e wn ⟨rfl, hb⟩
          clear x0 x1 x2 x3
          replace HB := Lib.hid (pure_below HB.out hb); replace HO := Lib.hid (HO.out.pure hb); replace HX := Lib.hid (HX.out.pure hb)
          clear hb
          have x0 := cell0 HX.out; have x1 := cell1 HX.out; have x2 := cell2 HX.out; have x3 := cell3 HX.out
          go_wp2_with fail
          go_at_call 41
          refine (gives_yes A1 l.length c1 p q t V (-1) 0 0 0 0 6 l _ HO.out hc1 hM40 J1.out J2.out J3.out J4.out J5.out).mono ?_
          rintro e wn ⟨rfl, hb⟩
          clear x0 x1 x2 x3
          replace HB := Lib.hid (pure_below HB.out hb); replace HO := Lib.hid (HO.out.pure hb); replace HX := Lib.hid (HX.out.pure hb)
          clear hb
          have x0 := cell0 HX.out; have x1 := cell1 HX.out; have x2 := cell2 HX.out; have x3 := cell3 HX.out
          clear x0 x1 x2 x3
          go_wp2_with fail
          go_at_call 40
          refine (liworks_spec _).mono ?_
          rintro e w9 ⟨rfl, hb⟩
          replace HB := Lib.hid (pure_below HB.out hb)
          clear hb
          go_wp2
          go_ret
          exact ⟨rfl, HB.out⟩
  · have hz := ls_zero (show lsE l p q t v ≠ 0 by rw [hne]; exact he)
    rw [hnf, hna, hnt, hnl] at hz
    obtain ⟨rfl, rfl, rfl, rfl⟩ := hz
    have hae : atE l p q t v 0 = ne := by unfold atE; rw [hne, if_pos he]
    obtain ⟨a1, a2, a3, a4⟩ := at_none hae he
    have H1 := Lib.hid a1
    have H2 := Lib.hid a2
    have H3 := Lib.hid a3
    have H4 := Lib.hid a4
    have H5 := Lib.hid hae
    have hen : (ne != 0) = true := by simpa using he
    clear hnf hna hnt hnl hne he a1 a2 a3 a4 hae
    go_wp2_with fail
    go_at_call 33
    refine (lspan_is A1 l.length c1 p q t v 0 0 0 ne l _ HO.out hc1 hM40 HNF.out HNA.out HNT.out HNE.out).mono ?_
    rintro e wn ⟨rfl, hb⟩
    clear x0 x1 x2 x3
    replace HB := Lib.hid (pure_below HB.out hb); replace HO := Lib.hid (HO.out.pure hb); replace HX := Lib.hid (HX.out.pure hb)
    clear hb
    have x0 := cell0 HX.out; have x1 := cell1 HX.out; have x2 := cell2 HX.out; have x3 := cell3 HX.out
    go_wp2_with fail
    go_at_call 35
    refine (llen_is A1 l.length c1 p q t v 0 ne l _ HO.out hc1 hM40 HNL.out HNE.out).mono ?_
    rintro e wn ⟨rfl, hb⟩
    clear x0 x1 x2 x3
    replace HB := Lib.hid (pure_below HB.out hb); replace HO := Lib.hid (HO.out.pure hb); replace HX := Lib.hid (HX.out.pure hb)
    clear hb
    have x0 := cell0 HX.out; have x1 := cell1 HX.out; have x2 := cell2 HX.out; have x3 := cell3 HX.out
    go_wp2_with fail
    go_at_call 41
    refine (gives_yes A1 l.length c1 p q t v 0 0 0 0 0 ne l _ HO.out hc1 hM40 H1.out H2.out H3.out H4.out H5.out).mono ?_
    rintro e wn ⟨rfl, hb⟩
    clear x0 x1 x2 x3
    replace HB := Lib.hid (pure_below HB.out hb); replace HO := Lib.hid (HO.out.pure hb); replace HX := Lib.hid (HX.out.pure hb)
    clear hb
    have x0 := cell0 HX.out; have x1 := cell1 HX.out; have x2 := cell2 HX.out; have x3 := cell3 HX.out
    clear x0 x1 x2 x3
    go_wp2_with fail
    go_at_call 40
    refine (liworks_spec _).mono ?_
    rintro e w9 ⟨rfl, hb⟩
    replace HB := Lib.hid (pure_below HB.out hb)
    clear hb
    go_wp2
    go_ret
    exact ⟨rfl, HB.out⟩
open Go.ChangeShapes Go.WideShapes Go.ChangeAt
set_option maxRecDepth 100000 in
theorem listWithin_run {H : Type} {enc : TypeId × Value → H} {v0 v1 : Value} {d0 d1 : DataW H} {p0 p1 : List MemPlace} (W : World) (base : Nat) (k0 : Value.okWide Try.prog W .any base 25 v0) (k1 : Value.okWide Try.prog W .any base 23 v1)
    (h0 : DataW.Trod enc Try.prog W 0 (fun _ => true) true 25 v0 d0 p0) (h1 : DataW.Trod enc Try.prog W 0 (fun _ => true) true 23 v1 d1 p1) :
    Calls Try.prog 8 #[v0, v1] W fun e w' => e = .returned (.bool true) ∧ Below W.heap.size W w' := by
  obtain ⟨A, n, c, l, rfl, hI, hc, _⟩ := bytes_arg k0 h0
  obtain ⟨p, q, t, v, rfl, _⟩ := ref_arg k1 h1
  exact listwithin_spec A n c p q t v l W hI hc

set_option maxRecDepth 100000 in
theorem listWithin_lifted (os : Os) (started : os.Started) (H : Type) (enc : TypeId × Value → H) :
    ReturnsInHanded {} Try.checked os 8 .any (Rows.listWithinSpec.pre6 enc Try.prog Try.f8 Rows.listWithinRow.domain false) (Rows.listWithinSpec.post enc Try.prog Try.f8 false true false false) := by
  refine returnsInHanded_of_change (C := Try.checked) acc_own started (by kernel_rfl) Try.func8
    (ChangeSpec.witness6 (enc := enc) (C := Try.checked) false ⟨#[], #[.slice none 0 0, .agg #[.int .i64 0, .int .i64 0, .int .i64 0, .int .i64 0]], []⟩ 8 (by kernel_rfl) (by kernel_rfl) (by kernel_rfl) (by kernel_rfl)) ?_
  intro W base args ds gs before hval0 hW hcnd _
  have hval : ∀ (j : Nat) t v, Try.f8.params[j]? = some t → args[j]? = some v → Value.okWide Try.prog W .any base t v := hval0
  have hW' := hW
  obtain ⟨p, q, hA0, hV, rfl, hfz, hnd⟩ := hW
  have hA : DataW.TrodAll enc Try.prog W 0 (fun _ => true) true Try.f8.params.toList args.toList ds p := hA0
  rw [Try.params8] at hA
  rw [Try.params8] at hval
  obtain ⟨v0, vs0, d0, ds0, p0, q0, hargs, rfl, rfl, h0, r0⟩ := trodAll_cons hA
  obtain ⟨v1, vs1, d1, ds1, p1, q1, rfl, rfl, rfl, h1, r1⟩ := trodAll_cons r0
  obtain ⟨rfl, rfl, rfl⟩ := trodAll_nil r1
  obtain rfl : args = #[v0, v1] := by cases args; simp_all
  obtain ⟨rfl, rfl⟩ := trodVars_none hV
  have k0 := hval 0 25 v0 rfl rfl
  have k1 := hval 1 23 v1 rfl rfl
  clear hA0 hval0
  refine (listWithin_run (enc := enc) W base k0 k1 h0 h1).mono fun e W' ⟨he, bel⟩ => ?_
  subst he
  exact ⟨_, rfl, _, _, _, [], _, [], hW', trodAll_mk1 (shut_bool Try.underlying4 _), (trodAll_cons_mk (below_arg acc_laidOut (by kernel_rfl) (of_decide_eq_true (by kernel_rfl)) h0 bel) (trodAll_cons_mk (below_arg acc_laidOut (by kernel_rfl) (of_decide_eq_true (by kernel_rfl)) h1 bel) trodAll_mk0)), rfl, bel.frame _, fun h => by cases h⟩

theorem listWithin_holds : Rows.ListWithinSaid :=
  OpenClaim.holds_of_wide 8 Try.f8 rfl rfl rfl rfl rfl rfl rfl ⟨rfl, rfl, rfl, rfl, rfl⟩ rfl rfl rfl rfl rfl (by kernel_rfl) Try.func8 (by kernel_rfl)
    (of_decide_eq_true (by kernel_rfl)) (by unfold Func.isWrapper; rw [if_neg (of_decide_eq_false (by kernel_rfl))]; exact ⟨rfl, rfl⟩)
    (fun os started H enc _ => listWithin_lifted os started H enc)
#print axioms listWithin_holds
end Go.Proofs.Ytaigofpipoimkaa
