/-
  Package find: the property FindRising.
-/
import Derived.Test.YtaigofpipoimkaaFiM
namespace Go.Proofs.Ytaigofpipoimkaa
open Go.RowKit Go.Acc
set_option maxRecDepth 100000 in
set_option maxHeartbeats 4000000 in
theorem findrising_spec (A : Option Addr) (n c : Nat) (p q t v : Int) (l k : List UInt8) (w : World) (h : IsB w A n l) (hc : n ≤ c) :
    Calls Try.prog 13 #[.slice A n c, .agg #[.int .i64 p, .int .i64 q, .int .i64 t, .int .i64 v], .string ⟨k.toArray⟩] w fun e w' => e = .returned (.bool true) ∧ Below w.heap.size w w' := by
  obtain ⟨M, hMn, hMB, hmin, hcut⟩ := cut_facts A n c 600 600 rfl hc
  have HM := Lib.hid ((h.take bc_len hMn).alloc (.cells #[.int .i64 p, .int .i64 q, .int .i64 t, .int .i64 v] 23))
  have HB := Lib.hid ((Below.refl w.heap.size w).alloc (Nat.le_refl _) (.cells #[.int .i64 p, .int .i64 q, .int .i64 t, .int .i64 v] 23))
  have HX := Lib.hid (Blk.new w 23 #[.int .i64 p, .int .i64 q, .int .i64 t, .int .i64 v])
  clear h
  go_enter Try.func13, Try.ntmps13
  go_wp2_with fail
  go_at_call 15
  refine (copyb_spec A M c (l.take M) _ HM.out (by omega)).mono ?_
  rintro e w1 ⟨A1, n1, c1, rfl, hO1, hb1⟩
  obtain rfl : M = n1 := by rw [← hO1.1, HM.out.1]
  have hlen := HM.out.1
  generalize l.take M = l at hO1 hlen HM
  subst hlen
  replace HB := Lib.hid (pure_below HB.out hb1)
  have HO := Lib.hid hO1.is
  replace HX := Lib.hid (HX.out.pure hb1)
  have hc1 := hO1.cap.1
  have hM40 : l.length ≤ 1099511627776 := by omega
  clear hO1 hb1 HM hmin hcut
  go_wp2_with fail
  go_at_call 52
  refine (short_spec k _).mono ?_
  rintro e w2 ⟨rfl, rfl⟩
  generalize k.take 60 = k
  obtain ⟨xp, ha⟩ : ∃ x, fdP l k p q t v = x := ⟨_, rfl⟩
  obtain ⟨xq, hb⟩ : ∃ x, fdQ l k p q t v = x := ⟨_, rfl⟩
  obtain ⟨xt, hd⟩ : ∃ x, fdT l k p q t v = x := ⟨_, rfl⟩
  obtain ⟨xv, hg⟩ : ∃ x, fdV l k p q t v = x := ⟨_, rfl⟩
  obtain ⟨is, his⟩ : ∃ x, fdB l k p q t v = x := ⟨_, rfl⟩
  obtain ⟨xe, her⟩ : ∃ x, fdE l k p q t v = x := ⟨_, rfl⟩
  obtain ⟨nl, hnl⟩ : ∃ x, lsLen l p q t v = x := ⟨_, rfl⟩
  obtain ⟨ne, hne⟩ : ∃ x, lsE l p q t v = x := ⟨_, rfl⟩
  have hlm := lslen_le l p q t v
  rw [hnl] at hlm
  have hnone : ne ≠ 0 → is = false ∧ xe ≠ 0 := by
    intro h
    rw [← his, ← her]
    exact fd_none (by rw [hne]; exact h)
  obtain ⟨I, hI⟩ : ∃ I : Nat, is = true → I < nl ∧ kaE l p q t v I = 0 ∧ kaS l p q t v I = k ∧ atE l p q t v I = 0 ∧ xp = atP l p q t v I ∧ xq = atQ l p q t v I ∧ xt = atT l p q t v I ∧ xv = atV l p q t v I := by
    cases hs : is with
    | false => exact ⟨0, fun h => by cases h⟩
    | true =>
      rw [hs] at his
      obtain ⟨I, h1⟩ := found_at his
      rw [hnl, ha, hb, hd, hg] at h1
      exact ⟨I, fun _ => h1⟩
  have H1 := Lib.hid ha
  have H2 := Lib.hid hb
  have H3 := Lib.hid hd
  have H4 := Lib.hid hg
  have H5 := Lib.hid his
  have H6 := Lib.hid her
  have HNL := Lib.hid hnl
  have HNLI := Lib.hid (show (lsLen l p q t v : Int) = nl by rw [hnl])
  have HNE := Lib.hid hne
  have HI := Lib.hid hI
  clear ha hb hd hg his her hnl hne hI
  have x0 := cell0 HX.out; have x1 := cell1 HX.out; have x2 := cell2 HX.out; have x3 := cell3 HX.out
  go_wp2_with fail
  go_at_call 53
  refine (ffind_is A1 l.length c1 p q t v xp xq xt xv xe is l k _ HO.out hc1 hM40 H1.out H2.out H3.out H4.out H5.out H6.out).mono ?_
  rintro e w3 ⟨rfl, hb⟩
  clear x0 x1 x2 x3
  replace HB := Lib.hid (pure_below HB.out hb); replace HO := Lib.hid (HO.out.pure hb); replace HX := Lib.hid (HX.out.pure hb)
  clear hb
  have HF := Lib.hid (Blk.new w3 23 #[.int .i64 xp, .int .i64 xq, .int .i64 xt, .int .i64 xv])
  replace HB := Lib.hid (HB.out.alloc HB.out.size (.cells #[.int .i64 xp, .int .i64 xq, .int .i64 xt, .int .i64 xv] 23))
  replace HO := Lib.hid (HO.out.alloc (.cells #[.int .i64 xp, .int .i64 xq, .int .i64 xt, .int .i64 xv] 23))
  replace HX := Lib.hid (HX.out.alloc (.cells #[.int .i64 xp, .int .i64 xq, .int .i64 xt, .int .i64 xv] 23))
  have x0 := cell0 HX.out; have x1 := cell1 HX.out; have x2 := cell2 HX.out; have x3 := cell3 HX.out
  go_wp2_with fail
  go_at_call 35
  refine (llen_is A1 l.length c1 p q t v nl ne l _ HO.out hc1 hM40 HNLI.out HNE.out).mono ?_
  rintro e w4 ⟨rfl, hb⟩
  clear x0 x1 x2 x3
  replace HB := Lib.hid (pure_below HB.out hb); replace HO := Lib.hid (HO.out.pure hb); replace HX := Lib.hid (HX.out.pure hb); replace HF := Lib.hid (HF.out.pure hb)
  clear hb
  have hnl6 : (nl : Int) ≤ 600 := by omega
  by_cases hz : ne = 0
  · subst hz
    clear hnone
    go_wp2_with fail
    go_loopw [13, 14, 15, 16] (fun r f s i wr => ∃ j : Nat, (∃ b : Bool, r = .bool b) ∧ (∃ b : Bool, f = .bool b ∧ (is = true → I < j → b = true)) ∧ (∃ x : List UInt8, s = .string ⟨x.toArray⟩) ∧ j ≤ nl ∧ i = .int .i64 j ∧ Below w.heap.size w wr ∧ IsB wr A1 l.length l ∧ Blk wr w.heap.size 23 #[.int .i64 p, .int .i64 q, .int .i64 t, .int .i64 v] ∧ Blk wr w3.heap.size 23 #[.int .i64 xp, .int .i64 xq, .int .i64 xt, .int .i64 xv]) (fun _ _ _ i _ => (nl - intOf i).toNat)
    case atStart => exact ⟨0, ⟨true, rfl⟩, ⟨false, rfl, fun _ h => by omega⟩, ⟨[], rfl⟩, by omega, rfl, HB.out, HO.out, HX.out, HF.out⟩
    case round =>
      obtain ⟨j, ⟨rise0, rfl⟩, ⟨fb, rfl, hfb⟩, ⟨last, rfl⟩, hj, rfl, hB, hO, hX, hF⟩ := hrel
      clear HB HO HX HF
      have HFB := Lib.hid hfb
      have HB := Lib.hid hB
      have HO := Lib.hid hO
      have HX := Lib.hid hX
      have HF := Lib.hid hF
      clear hfb hB hO hX hF
      by_cases hlt : j < nl
      · obtain ⟨s, hs⟩ : ∃ x, kaS l p q t v j = x := ⟨_, rfl⟩
        obtain ⟨ee, hee⟩ : ∃ x, kaE l p q t v j = x := ⟨_, rfl⟩
        obtain ⟨a, ha⟩ : ∃ x, atP l p q t v j = x := ⟨_, rfl⟩
        obtain ⟨b, hb⟩ : ∃ x, atQ l p q t v j = x := ⟨_, rfl⟩
        obtain ⟨d, hd⟩ : ∃ x, atT l p q t v j = x := ⟨_, rfl⟩
        obtain ⟨g, hg⟩ : ∃ x, atV l p q t v j = x := ⟨_, rfl⟩
        obtain ⟨er, her⟩ : ∃ x, atE l p q t v j = x := ⟨_, rfl⟩
        have HS := Lib.hid hs
        have HE := Lib.hid hee
        have J1 := Lib.hid ha
        have J2 := Lib.hid hb
        have J3 := Lib.hid hd
        have J4 := Lib.hid hg
        have J5 := Lib.hid her
        clear hs hee ha hb hd hg her
        have hlti : (j : Int) < nl := by omega
        have hj0 : (0 : Int) ≤ j := by omega
        have x0 := cell0 HX.out; have x1 := cell1 HX.out; have x2 := cell2 HX.out; have x3 := cell3 HX.out
        go_wp2_with fail
        go_at_call 49
        refine (fkeyat_is A1 l.length c1 p q t v j ee s l _ HO.out hc1 hM40 HS.out HE.out).mono ?_
        rintro e w5 ⟨rfl, hb⟩
        clear x0 x1 x2 x3
        replace HB := Lib.hid (pure_below HB.out hb); replace HO := Lib.hid (HO.out.pure hb); replace HX := Lib.hid (HX.out.pure hb); replace HF := Lib.hid (HF.out.pure hb)
        clear hb
        have x0 := cell0 HX.out; have x1 := cell1 HX.out; have x2 := cell2 HX.out; have x3 := cell3 HX.out
        go_wp2_with fail
        go_at_call 37
        refine (lat_is A1 l.length c1 p q t v j a b d g er l _ HO.out hc1 hM40 J1.out J2.out J3.out J4.out J5.out).mono ?_
        rintro e w6 ⟨rfl, hb⟩
        clear x0 x1 x2 x3
        replace HB := Lib.hid (pure_below HB.out hb); replace HO := Lib.hid (HO.out.pure hb); replace HX := Lib.hid (HX.out.pure hb); replace HF := Lib.hid (HF.out.pure hb)
        clear hb
        have HY := Lib.hid (Blk.new w6 23 #[.int .i64 a, .int .i64 b, .int .i64 d, .int .i64 g])
        replace HB := Lib.hid (HB.out.alloc HB.out.size (.cells #[.int .i64 a, .int .i64 b, .int .i64 d, .int .i64 g] 23))
        replace HO := Lib.hid (HO.out.alloc (.cells #[.int .i64 a, .int .i64 b, .int .i64 d, .int .i64 g] 23))
        replace HX := Lib.hid (HX.out.alloc (.cells #[.int .i64 a, .int .i64 b, .int .i64 d, .int .i64 g] 23))
        replace HF := Lib.hid (HF.out.alloc (.cells #[.int .i64 a, .int .i64 b, .int .i64 d, .int .i64 g] 23))
        go_upto_region 13 with fail
        generalize w6.alloc (.cells #[.int .i64 a, .int .i64 b, .int .i64 d, .int .i64 g] 23) = w7 at HY HB HO HX HF ⊢
        go_cut [88] (fun u88 wx => w7 = wx ∧ ∃ b : Bool, u88 = .bool b)
        case first =>
          by_cases he : ee = 0
          · subst he
            by_cases hjz : j = 0
            · subst hjz
              go_wp2_with fail
              go_meet
              exact ⟨rfl, _, rfl⟩
            · have hj1 : (0 : Int) < j := by omega
              clear hjz
              go_wp2_with fail
              go_at_call 55
              refine (less_spec last s _).mono ?_
              rintro e w8 ⟨rfl, rfl⟩
              go_wp2_with fail
              go_meet
              exact ⟨rfl, _, rfl⟩
          · have hne : (ee != 0) = true := by simpa using he
            clear he
            go_wp2_with fail
            go_meet
            exact ⟨rfl, _, rfl⟩
        case rest =>
          obtain ⟨rfl, b88, rfl⟩ := hcut
          go_upto_if 88 with fail
          go_cut [13] (fun u13 wx => w7 = wx ∧ ∃ b : Bool, u13 = .bool b)
          case first =>
            cases b88
            all_goals
              go_wp2_with fail
              go_meet
              exact ⟨rfl, _, rfl⟩
          case rest =>
            obtain ⟨rfl, rise, rfl⟩ := hcut
            go_upto_region 15 with fail
            go_cut [104] (fun u104 wx => w7 = wx ∧ ∃ b1 : Bool, u104 = .bool b1 ∧ ((ee = 0 ∧ s = k ∧ xp = a ∧ xq = b ∧ xt = d ∧ xv = g ∧ er = 0) → b1 = true))
            case first =>
              have y0 := cell0 HY.out; have y1 := cell1 HY.out; have y2 := cell2 HY.out; have y3 := cell3 HY.out
              have f0 := cell0 HF.out; have f1 := cell1 HF.out; have f2 := cell2 HF.out; have f3 := cell3 HF.out
              by_cases c0 : ee = 0
              rotate_left
              · have C0 := Lib.hid c0
                have e0 : (ee == 0) = false := beq_eq_false_iff_ne.mpr c0
                have d0 : decide (ee = 0) = false := decide_eq_false c0
                go_wp2_with fail
                go_meet
                exact ⟨rfl, _, rfl, fun h => absurd h.1 C0.out⟩
              have e0 : (ee == 0) = true := beq_iff_eq.mpr c0
              have d0 : decide (ee = 0) = true := decide_eq_true c0
              clear c0
              by_cases c1 : s = k
              rotate_left
              · have C1 := Lib.hid c1
                have e1 : (s == k) = false := beq_eq_false_iff_ne.mpr c1
                have d1 : decide (s = k) = false := decide_eq_false c1
                go_wp2_with fail
                go_meet
                exact ⟨rfl, _, rfl, fun h => absurd h.2.1 C1.out⟩
              have e1 : (s == k) = true := beq_iff_eq.mpr c1
              have d1 : decide (s = k) = true := decide_eq_true c1
              clear c1
              by_cases c2 : xp = a
              rotate_left
              · have C2 := Lib.hid c2
                have e2 : (xp == a) = false := beq_eq_false_iff_ne.mpr c2
                have d2 : decide (xp = a) = false := decide_eq_false c2
                go_wp2_with fail
                go_meet
                exact ⟨rfl, _, rfl, fun h => absurd h.2.2.1 C2.out⟩
              have e2 : (xp == a) = true := beq_iff_eq.mpr c2
              have d2 : decide (xp = a) = true := decide_eq_true c2
              clear c2
              by_cases c3 : xq = b
              rotate_left
              · have C3 := Lib.hid c3
                have e3 : (xq == b) = false := beq_eq_false_iff_ne.mpr c3
                have d3 : decide (xq = b) = false := decide_eq_false c3
                go_wp2_with fail
                go_meet
                exact ⟨rfl, _, rfl, fun h => absurd h.2.2.2.1 C3.out⟩
              have e3 : (xq == b) = true := beq_iff_eq.mpr c3
              have d3 : decide (xq = b) = true := decide_eq_true c3
              clear c3
              by_cases c4 : xt = d
              rotate_left
              · have C4 := Lib.hid c4
                have e4 : (xt == d) = false := beq_eq_false_iff_ne.mpr c4
                have d4 : decide (xt = d) = false := decide_eq_false c4
                go_wp2_with fail
                go_meet
                exact ⟨rfl, _, rfl, fun h => absurd h.2.2.2.2.1 C4.out⟩
              have e4 : (xt == d) = true := beq_iff_eq.mpr c4
              have d4 : decide (xt = d) = true := decide_eq_true c4
              clear c4
              by_cases c5 : xv = g
              rotate_left
              · have C5 := Lib.hid c5
                have e5 : (xv == g) = false := beq_eq_false_iff_ne.mpr c5
                have d5 : decide (xv = g) = false := decide_eq_false c5
                go_wp2_with fail
                go_meet
                exact ⟨rfl, _, rfl, fun h => absurd h.2.2.2.2.2.1 C5.out⟩
              have e5 : (xv == g) = true := beq_iff_eq.mpr c5
              have d5 : decide (xv = g) = true := decide_eq_true c5
              clear c5
              by_cases c6 : er = 0
              rotate_left
              · have C6 := Lib.hid c6
                have e6 : (er == 0) = false := beq_eq_false_iff_ne.mpr c6
                have d6 : decide (er = 0) = false := decide_eq_false c6
                go_wp2_with fail
                go_meet
                exact ⟨rfl, _, rfl, fun h => absurd h.2.2.2.2.2.2 C6.out⟩
              have e6 : (er == 0) = true := beq_iff_eq.mpr c6
              have d6 : decide (er = 0) = true := decide_eq_true c6
              clear c6
              go_wp2_with fail
              go_meet
              exact ⟨rfl, _, rfl, fun _ => rfl⟩
            case rest =>
              obtain ⟨rfl, b1, rfl, hb1⟩ := hcut
              have HB1 := Lib.hid hb1
              clear hb1
              go_upto_if 104 with fail
              go_cut [14] (fun u14 wx => w7 = wx ∧ ∃ b2 : Bool, u14 = .bool b2 ∧ (fb = true → b2 = true) ∧ (b1 = true → b2 = true))
              case first =>
                cases b1
                · go_wp2_with fail
                  go_meet
                  exact ⟨rfl, _, rfl, fun h => h, fun h => by cases h⟩
                · go_wp2_with fail
                  go_meet
                  exact ⟨rfl, _, rfl, fun _ => rfl, fun _ => rfl⟩
              case rest =>
                obtain ⟨rfl, fb2, rfl, hf1, hf2⟩ := hcut
                have HFB2 : Hid (is = true → I < j + 1 → fb2 = true) := Lib.hid (by
                  intro h1 h2
                  by_cases e : I = j
                  · obtain ⟨_, i2, i3, i4, i5, i6, i7, i8⟩ := HI.out h1
                    rw [e] at i2 i3 i4 i5 i6 i7 i8
                    refine hf2 (HB1.out ⟨HE.out.symm.trans i2, HS.out.symm.trans i3, i5.trans J1.out, i6.trans J2.out, i7.trans J3.out, i8.trans J4.out, J5.out.symm.trans i4⟩)
                  · exact hf1 (HFB.out h1 (by omega)))
                clear hf1 hf2
                cases rise with
                | false =>
                  go_wp2
                  go_roundw
                  case rel => exact ⟨j + 1, ⟨false, rfl⟩, ⟨fb2, rfl, HFB2.out⟩, ⟨s, rfl⟩, by omega, by go_num, HB.out, HO.out, HX.out, HF.out⟩
                  case measure => simp [intOf]; omega
                | true =>
                  by_cases her : er = 0
                  · subst her
                    have x0 := cell0 HX.out; have x1 := cell1 HX.out; have x2 := cell2 HX.out; have x3 := cell3 HX.out
                    have y0 := cell0 HY.out; have y1 := cell1 HY.out; have y2 := cell2 HY.out; have y3 := cell3 HY.out
                    by_cases hasc : AscK l p q t v nl
                    · have hfd := asc_find HNL.out hasc hlt J5.out
                      rw [HS.out, J1.out, J2.out, J3.out, J4.out] at hfd
                      obtain ⟨q1, q2, q3, q4, q5, q6⟩ := hfd
                      have Q1 := Lib.hid q1
                      have Q2 := Lib.hid q2
                      have Q3 := Lib.hid q3
                      have Q4 := Lib.hid q4
                      have Q5 := Lib.hid q5
                      have Q6 := Lib.hid q6
                      clear q1 q2 q3 q4 q5 q6 hasc
                      go_wp2_with fail
                      go_at_call 56
                      refine (finds_yes A1 l.length c1 p q t v a b d g 0 true l s _ HO.out hc1 hM40 Q1.out Q2.out Q3.out Q4.out Q5.out Q6.out).mono ?_
                      rintro e w8 ⟨rfl, hb⟩
                      clear x0 x1 x2 x3 y0 y1 y2 y3
                      replace HB := Lib.hid (pure_below HB.out hb); replace HO := Lib.hid (HO.out.pure hb); replace HX := Lib.hid (HX.out.pure hb); replace HF := Lib.hid (HF.out.pure hb)
                      clear hb
                      go_wp2
                      go_roundw
                      case rel => exact ⟨j + 1, ⟨true, rfl⟩, ⟨fb2, rfl, HFB2.out⟩, ⟨s, rfl⟩, by omega, by go_num, HB.out, HO.out, HX.out, HF.out⟩
                      case measure => simp [intOf]; omega
                    · have HASC := Lib.hid hasc
                      clear hasc
                      go_wp2_with fail
                      go_at_call 56
                      refine (finds_any A1 l.length c1 p q t v a b d g 0 true l s _ HO.out hc1 hM40).mono ?_
                      rintro e w8 ⟨b8, rfl, hb⟩
                      clear x0 x1 x2 x3 y0 y1 y2 y3
                      replace HB := Lib.hid (pure_below HB.out hb); replace HO := Lib.hid (HO.out.pure hb); replace HX := Lib.hid (HX.out.pure hb); replace HF := Lib.hid (HF.out.pure hb)
                      clear hb
                      cases b8 with
                      | true =>
                        go_wp2
                        go_roundw
                        case rel => exact ⟨j + 1, ⟨true, rfl⟩, ⟨fb2, rfl, HFB2.out⟩, ⟨s, rfl⟩, by omega, by go_num, HB.out, HO.out, HX.out, HF.out⟩
                        case measure => simp [intOf]; omega
                      | false =>
                        have x0 := cell0 HX.out; have x1 := cell1 HX.out; have x2 := cell2 HX.out; have x3 := cell3 HX.out
                        go_wp2_with fail
                        go_at_call 57
                        refine (all_no A1 l.length c1 nl p q t v l _ HO.out hc1 hM40 (by omega) HASC.out).mono ?_
                        rintro e w9 ⟨rfl, hb⟩
                        clear x0 x1 x2 x3
                        replace HB := Lib.hid (pure_below HB.out hb); replace HO := Lib.hid (HO.out.pure hb); replace HX := Lib.hid (HX.out.pure hb); replace HF := Lib.hid (HF.out.pure hb)
                        clear hb
                        go_wp2
                        go_roundw
                        case rel => exact ⟨j + 1, ⟨true, rfl⟩, ⟨fb2, rfl, HFB2.out⟩, ⟨s, rfl⟩, by omega, by go_num, HB.out, HO.out, HX.out, HF.out⟩
                        case measure => simp [intOf]; omega
                  · have hne2 : (er == 0) = false := beq_eq_false_iff_ne.mpr her
                    clear her
                    go_wp2
                    go_roundw
                    case rel => exact ⟨j + 1, ⟨true, rfl⟩, ⟨fb2, rfl, HFB2.out⟩, ⟨s, rfl⟩, by omega, by go_num, HB.out, HO.out, HX.out, HF.out⟩
                    case measure => simp [intOf]; omega
      · obtain rfl : j = nl := by omega
        have hfin : is = true → fb = true := fun h => HFB.out h (HI.out h).1
        cases is with
        | false =>
          clear hfin
          go_wp2_with fail
          go_at_call 51
          refine (fiworks_spec _).mono ?_
          rintro e w9 ⟨rfl, hb⟩
          replace HB := Lib.hid (pure_below HB.out hb)
          clear hb
          go_wp2
          go_ret
          exact ⟨rfl, HB.out⟩
        | true =>
          obtain rfl := hfin rfl
          go_wp2_with fail
          go_at_call 51
          refine (fiworks_spec _).mono ?_
          rintro e w9 ⟨rfl, hb⟩
          replace HB := Lib.hid (pure_below HB.out hb)
          clear hb
          go_wp2
          go_ret
          exact ⟨rfl, HB.out⟩
  · obtain ⟨rfl, hxe⟩ := hnone hz
    have hne : (ne != 0) = true := by simpa using hz
    have hxn : (xe != 0) = true := by simpa using hxe
    clear hz hxe
    go_wp2_with fail
    go_at_call 51
    refine (fiworks_spec _).mono ?_
    rintro e w9 ⟨rfl, hb⟩
    replace HB := Lib.hid (pure_below HB.out hb)
    clear hb
    go_wp2
    go_ret
    exact ⟨rfl, HB.out⟩
open Go.ChangeShapes Go.WideShapes Go.ChangeAt
set_option maxRecDepth 100000 in
theorem findRising_run {H : Type} {enc : TypeId × Value → H} {v0 v1 v2 : Value} {d0 d1 d2 : DataW H} {p0 p1 p2 : List MemPlace} (W : World) (base : Nat) (k0 : Value.okWide Try.prog W .any base 25 v0) (k1 : Value.okWide Try.prog W .any base 23 v1) (k2 : Value.okWide Try.prog W .any base 9 v2)
    (h0 : DataW.Trod enc Try.prog W 0 (fun _ => true) true 25 v0 d0 p0) (h1 : DataW.Trod enc Try.prog W 0 (fun _ => true) true 23 v1 d1 p1) (h2 : DataW.Trod enc Try.prog W 0 (fun _ => true) true 9 v2 d2 p2) :
    Calls Try.prog 13 #[v0, v1, v2] W fun e w' => e = .returned (.bool true) ∧ Below W.heap.size W w' := by
  obtain ⟨A, n, c, l, rfl, hI, hc, _⟩ := bytes_arg k0 h0
  obtain ⟨p, q, t, v, rfl, _⟩ := ref_arg k1 h1
  obtain ⟨s, rfl, _⟩ := str_arg k2 h2
  exact findrising_spec A n c p q t v l s W hI hc

set_option maxRecDepth 100000 in
theorem findRising_lifted (os : Os) (started : os.Started) (H : Type) (enc : TypeId × Value → H) :
    ReturnsInHanded {} Try.checked os 13 .any (Rows.findRisingSpec.pre6 enc Try.prog Try.f13 Rows.findRisingRow.domain false) (Rows.findRisingSpec.post enc Try.prog Try.f13 false true false false) := by
  refine returnsInHanded_of_change (C := Try.checked) acc_own started (by kernel_rfl) Try.func13
    (ChangeSpec.witness6 (enc := enc) (C := Try.checked) false ⟨#[], #[.slice none 0 0, .agg #[.int .i64 0, .int .i64 0, .int .i64 0, .int .i64 0], .string ⟨#[]⟩], []⟩ 8 (by kernel_rfl) (by kernel_rfl) (by kernel_rfl) (by kernel_rfl)) ?_
  intro W base args ds gs before hval0 hW hcnd _
  have hval : ∀ (j : Nat) t v, Try.f13.params[j]? = some t → args[j]? = some v → Value.okWide Try.prog W .any base t v := hval0
  have hW' := hW
  obtain ⟨p, q, hA0, hV, rfl, hfz, hnd⟩ := hW
  have hA : DataW.TrodAll enc Try.prog W 0 (fun _ => true) true Try.f13.params.toList args.toList ds p := hA0
  rw [Try.params13] at hA
  rw [Try.params13] at hval
  obtain ⟨v0, vs0, d0, ds0, p0, q0, hargs, rfl, rfl, h0, r0⟩ := trodAll_cons hA
  obtain ⟨v1, vs1, d1, ds1, p1, q1, rfl, rfl, rfl, h1, r1⟩ := trodAll_cons r0
  obtain ⟨v2, vs2, d2, ds2, p2, q2, rfl, rfl, rfl, h2, r2⟩ := trodAll_cons r1
  obtain ⟨rfl, rfl, rfl⟩ := trodAll_nil r2
  obtain rfl : args = #[v0, v1, v2] := by cases args; simp_all
  obtain ⟨rfl, rfl⟩ := trodVars_none hV
  have k0 := hval 0 25 v0 rfl rfl
  have k1 := hval 1 23 v1 rfl rfl
  have k2 := hval 2 9 v2 rfl rfl
  clear hA0 hval0
  refine (findRising_run (enc := enc) W base k0 k1 k2 h0 h1 h2).mono fun e W' ⟨he, bel⟩ => ?_
  subst he
  exact ⟨_, rfl, _, _, _, [], _, [], hW', trodAll_mk1 (shut_bool Try.underlying4 _), (trodAll_cons_mk (below_arg acc_laidOut (by kernel_rfl) (of_decide_eq_true (by kernel_rfl)) h0 bel) (trodAll_cons_mk (below_arg acc_laidOut (by kernel_rfl) (of_decide_eq_true (by kernel_rfl)) h1 bel) (trodAll_cons_mk (below_arg acc_laidOut (by kernel_rfl) (of_decide_eq_true (by kernel_rfl)) h2 bel) trodAll_mk0))), rfl, bel.frame _, fun h => by cases h⟩

theorem findRising_holds : Rows.FindRisingSaid :=
  OpenClaim.holds_of_wide 13 Try.f13 rfl rfl rfl rfl rfl rfl rfl ⟨rfl, rfl, rfl, rfl, rfl⟩ rfl rfl rfl rfl rfl (by kernel_rfl) Try.func13 (by kernel_rfl)
    (of_decide_eq_true (by kernel_rfl)) (by unfold Func.isWrapper; rw [if_neg (of_decide_eq_false (by kernel_rfl))]; exact ⟨rfl, rfl⟩)
    (fun os started H enc _ => findRising_lifted os started H enc)
#print axioms findRising_holds
end Go.Proofs.Ytaigofpipoimkaa
