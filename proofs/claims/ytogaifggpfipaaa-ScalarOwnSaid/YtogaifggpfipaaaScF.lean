/-
  Package scalar's reference: Place, the number, Int, Uint, Bool.
-/
import Derived.Test.YtogaifggpfipaaaScE
namespace Go.Proofs.Ytogaifggpfipaaa
open Go.RowKit Go.Acc
theorem isS_67 {t : Int} (h : isS t = true) (hi : inlineT t = false) : t = 6 ∨ t = 7 := by
  rcases rd_cases h with rfl | rfl | rfl | rfl | rfl | rfl
  · exact absurd hi (by decide)
  · exact absurd hi (by decide)
  · exact absurd hi (by decide)
  · exact .inl rfl
  · exact .inr rfl
  · exact absurd hi (by decide)
theorem isS_no {t : Int} (h : isS t = false) : (t != 6) = true ∧ (t != 7) = true := by
  constructor
  · rw [bne_iff_ne]; rintro rfl; exact absurd h (by decide)
  · rw [bne_iff_ne]; rintro rfl; exact absurd h (by decide)
set_option maxRecDepth 100000 in
set_option maxHeartbeats 1000000 in
theorem rsplace_spec (A : Option Addr) (n c : Nat) (p q t v : Int) (l : List UInt8) (w : World) (h : IsB w A n l) (hn : n ≤ 9223372036854775807) :
    Calls Try.prog 24 #[.slice A n c, .agg #[.int .i64 p, .int .i64 q, .int .i64 t, .int .i64 v]] w (PlcW w l p q t v) := by
  have hlen := h.1
  subst hlen
  have HL := Lib.hid (h.alloc (.cells #[.int .i64 p, .int .i64 q, .int .i64 t, .int .i64 v] 24))
  have HB := Lib.hid ((Below.refl w.heap.size w).alloc (Nat.le_refl _) (.cells #[.int .i64 p, .int .i64 q, .int .i64 t, .int .i64 v] 24))
  have HX := Lib.hid (Blk.new w 24 #[.int .i64 p, .int .i64 q, .int .i64 t, .int .i64 v])
  have hpc := plc_cases l p q t v
  clear h
  go_enter Try.func24, Try.ntmps24
  go_wp2_with fail
  go_at_call 61
  refine (rmay_spec A _ c p q t v _ hn).mono ?_
  have x0 := cell0 HX.out
  have x1 := cell1 HX.out
  have x2 := cell2 HX.out
  have x3 := cell3 HX.out
  rintro e w1 ⟨rfl, hb⟩
  clear x0 x1 x2 x3; replace HB := Lib.hid (pure_below HB.out hb); replace HX := Lib.hid (HX.out.pure hb); replace HL := Lib.hid (HL.out.pure hb); clear hb; have x0 := cell0 HX.out; have x1 := cell1 HX.out; have x2 := cell2 HX.out; have x3 := cell3 HX.out
  rcases hpc with ⟨hm, he⟩ | ⟨hm, hpc⟩
  · have HE := Lib.hid he
    have hne : (mayE l.length p q t v != 0) = true := by simpa using hm
    have HM := Lib.hid hm
    clear he hm
    go_wp2
    go_ret3
    exact plcw_no HE.out HM.out HB.out
  · obtain ⟨g1, g2⟩ := mayE_ok.1 hm
    have g2 := inB_iff.1 g2
    have g1 := formed_iff.1 g1
    have v1 := isW_iff.1 g1.2.2
    rw [hm]
    obtain ⟨V, rfl⟩ : ∃ V : Nat, v = V := ⟨v.toNat, by omega⟩
    have hv1 : 1 ≤ V := by omega
    have hv8 : V ≤ 8 := by omega
    have hvz : (V == 0) = false := beq_eq_false_iff_ne.mpr (by omega)
    clear g1 g2 v1
    have HPC := Lib.hid hpc
    have HM := Lib.hid hm
    clear hpc hm
    go_wp2_with fail
    go_at_call 62
    refine (rinline_spec t _).mono ?_
    rintro e w2 ⟨rfl, rfl⟩
    rcases HPC.out with ⟨h1, he⟩ | ⟨h1, h2, he⟩ | ⟨h1, h2, hpc⟩
    · have HE := Lib.hid he
      have hi : inlineT t = false := by
        cases hi : inlineT t with
        | false => rfl
        | true => exact absurd (inline_rd hi) (by rw [h1]; decide)
      obtain ⟨n6, n7⟩ := isS_no h1
      rw [hi]
      clear he h1 HPC hi
      go_wp2
      go_ret3
      exact plcw_no HE.out (by decide) HB.out
    · have HE := Lib.hid he
      have HI := Lib.hid h2
      rw [h2]
      clear he h1 HPC h2
      go_wp2_with fail
      go_quiet (fail)
      go_wp2
      go_ret3
      exact plcw_yes HE.out (if_pos HI.out) (if_pos HI.out) (below_drewN HB.out _)
    · have HI := Lib.hid h2
      have HP := Lib.hid hpc
      have h67 := isS_67 h1 h2
      have h67' : ((t != 6) = false) ∨ ((t != 6) = true ∧ (t != 7) = false) := by
        rcases h67 with rfl | rfl
        · exact .inl rfl
        · exact .inr ⟨rfl, rfl⟩
      rw [h2]
      clear h1 HPC h2 hpc h67
      rcases h67' with n6 | ⟨n6, n7⟩
      all_goals
        go_wp2_with fail
        go_at_call 63
        refine (rtarget_spec A _ c p q t V l _ HL.out hn).mono ?_
        rintro e w3 ⟨rfl, hb⟩
        clear x0 x1 x2 x3; replace HB := Lib.hid (pure_below HB.out hb); replace HX := Lib.hid (HX.out.pure hb); replace HL := Lib.hid (HL.out.pure hb); clear hb; have x0 := cell0 HX.out; have x1 := cell1 HX.out; have x2 := cell2 HX.out; have x3 := cell3 HX.out
        rcases HP.out with ⟨h1, he⟩ | ⟨h0, h5, he⟩ | ⟨h0, h5, h6, he⟩ | ⟨h0, h5, h6, he⟩
        · have hne : (tgtE l p q t V != 0) = true := by simpa using h1
          have HE := Lib.hid he
          have HN := Lib.hid h1
          clear h1 he HP
          go_wp2
          go_ret3
          exact plcw_no HE.out HN.out HB.out
        · have HE := Lib.hid he
          have htr := tgt_rg h0
          rw [h0]
          obtain ⟨a, ha⟩ : ∃ a : Nat, tgt l p q t V = a := ⟨(tgt l p q t V).toNat, by omega⟩
          rw [ha] at h5 ⊢
          have hm2 : ((a : Int) % (V : Int) != 0) = true := by simpa using h5
          clear h0 h5 he HP ha htr
          go_wp2
          go_ret3
          exact plcw_no HE.out (by decide) HB.out
        · have HE := Lib.hid he
          have htr := tgt_rg h0
          rw [h0]
          obtain ⟨a, ha⟩ : ∃ a : Nat, tgt l p q t V = a := ⟨(tgt l p q t V).toNat, by omega⟩
          rw [ha] at h5 h6 ⊢
          have hm2 : ((a : Int) % (V : Int) != 0) = false := by simpa using h5
          have HIN := Lib.hid h6
          clear h0 h5 h6 he HP ha htr
          go_wp2_with fail
          go_at_call 64
          refine (rinside_spec A _ c a V _ hn).mono ?_
          rw [HIN.out]
          rintro e w4 ⟨rfl, rfl⟩
          go_wp2
          go_ret3
          exact plcw_no HE.out (by decide) HB.out
        · have HE := Lib.hid he
          have htr := tgt_rg h0
          rw [h0]
          obtain ⟨a, ha⟩ : ∃ a : Nat, tgt l p q t V = a := ⟨(tgt l p q t V).toNat, by omega⟩
          have HTA := Lib.hid ha
          rw [ha] at h5 h6 ⊢
          have hm2 : ((a : Int) % (V : Int) != 0) = false := by simpa using h5
          have HIN := Lib.hid h6
          clear h0 h5 h6 he HP ha htr
          go_wp2_with fail
          go_at_call 64
          refine (rinside_spec A _ c a V _ hn).mono ?_
          rw [HIN.out]
          rintro e w4 ⟨rfl, rfl⟩
          go_wp2_with fail
          go_quiet (fail)
          go_wp2
          go_ret3
          exact plcw_yes HE.out (by rw [if_neg (by rw [HI.out]; decide)]; exact HTA.out) (if_neg (by rw [HI.out]; decide)) (below_drewN HB.out _)
theorem ret_b2 {k : IntKind} {s s' : Bool} {a b : Int} {v : Value} (h : s = s') (h' : a = b) : Ending.returned (.tuple #[.bool s, .int k a, v]) = .returned (.tuple #[.bool s', .int k b, v]) := by rw [h, h']
set_option maxRecDepth 100000 in
set_option maxHeartbeats 1000000 in
theorem rnum_spec (A : Option Addr) (n c : Nat) (p q t v : Int) (l : List UInt8) (w : World) (h : IsB w A n l) (hn : n ≤ 9223372036854775807) :
    Calls Try.prog 57 #[.slice A n c, .agg #[.int .i64 p, .int .i64 q, .int .i64 t, .int .i64 v]] w fun e w' => e = .returned (.tuple #[.bool (scN l p q t v), .int .u64 (scU l p q t v : Nat), .int .i64 (plcE l p q t v)]) ∧ Below w.heap.size w w' := by
  have hlen := h.1
  subst hlen
  have HL := Lib.hid (h.alloc (.cells #[.int .i64 p, .int .i64 q, .int .i64 t, .int .i64 v] 24))
  have HB := Lib.hid ((Below.refl w.heap.size w).alloc (Nat.le_refl _) (.cells #[.int .i64 p, .int .i64 q, .int .i64 t, .int .i64 v] 24))
  have HX := Lib.hid (Blk.new w 24 #[.int .i64 p, .int .i64 q, .int .i64 t, .int .i64 v])
  clear h
  go_enter Try.func57, Try.ntmps57
  go_wp2_with fail
  go_at_call 24
  refine (rsplace_spec A _ c p q t v l _ HL.out hn).mono ?_
  generalize w.alloc (.cells #[.int .i64 p, .int .i64 q, .int .i64 t, .int .i64 v] 24) = wB at HL HB HX ⊢
  have x0 := cell0 HX.out
  have x1 := cell1 HX.out
  have x2 := cell2 HX.out
  have x3 := cell3 HX.out
  unfold PlcW
  rintro e w1 ⟨rfl, hb⟩
  clear x0 x1 x2 x3
  replace HB := Lib.hid (pure_below HB.out hb)
  replace HX := Lib.hid (HX.out.pure hb)
  replace HL := Lib.hid (HL.out.pure hb)
  clear hb
  have x0 := cell0 HX.out
  have x1 := cell1 HX.out
  have x2 := cell2 HX.out
  have x3 := cell3 HX.out
  by_cases he : plcE l p q t v = 0
  · have hs := rd_cases (plc_isS he)
    have HE := Lib.hid he
    obtain ⟨a, ha⟩ : ∃ a, plcA l p q t v = a := ⟨_, rfl⟩
    obtain ⟨x, hx⟩ : ∃ x, plcW l p q t v = x := ⟨_, rfl⟩
    have HA := Lib.hid ha
    have HXW := Lib.hid hx
    rw [he, ha, hx]
    clear he ha hx
    have HPN := Lib.hid (show scN l p q t v = rdN l t a x by unfold scN; rw [HE.out, HA.out, HXW.out]; rfl)
    have HPU := Lib.hid (show scU l p q t v = rdU l t a x by unfold scU; rw [HE.out, HA.out, HXW.out]; rfl)
    have hmin : (if (1 : Int) < (loadU l a x : Int) then (1 : Int) else (loadU l a x : Int)) = ((min (loadU l a x) 1 : Nat) : Int) := by
      split <;> omega
    go_wp2_with fail
    go_at_call 80
    refine (rload_spec A _ c a x l _ HL.out hn).mono ?_
    rintro e w2 ⟨rfl, hb⟩
    clear x0 x1 x2 x3
    replace HB := Lib.hid (pure_below HB.out hb)
    replace HX := Lib.hid (HX.out.pure hb)
    replace HL := Lib.hid (HL.out.pure hb)
    clear hb
    have x0 := cell0 HX.out
    have x1 := cell1 HX.out
    have x2 := cell2 HX.out
    have x3 := cell3 HX.out
    rcases hs with rfl | rfl | rfl | rfl | rfl | rfl
    · go_wp2
      go_ret3
      rw [HPN.out, HPU.out, HE.out]
      exact ⟨rfl, HB.out⟩
    · have hbd := loadI_64 l a x
      have b1 := hbd.1
      have b2 := hbd.2
      obtain ⟨i, hi⟩ : ∃ i, loadI l a x = i := ⟨_, rfl⟩
      rw [hi] at b1 b2
      have HI := Lib.hid hi
      clear hi hbd hmin
      go_wp2_with fail
      go_at_call 90
      refine (rloadi_spec A _ c a x l _ HL.out hn).mono ?_
      rw [HI.out]
      rintro e w3 ⟨rfl, hb⟩
      clear x0 x1 x2 x3
      replace HB := Lib.hid (pure_below HB.out hb)
      replace HX := Lib.hid (HX.out.pure hb)
      replace HL := Lib.hid (HL.out.pure hb)
      clear hb
      have x0 := cell0 HX.out
      have x1 := cell1 HX.out
      have x2 := cell2 HX.out
      have x3 := cell3 HX.out
      by_cases h0 : i < 0
      · have e1 : rdN l 1 a x = true := by unfold rdN; rw [HI.out]; simp [h0]
        have e2 : ((rdU l 1 a x : Nat) : Int) = -(i + 1) + 1 := by unfold rdU; rw [HI.out]; simp; omega
        have E1 := Lib.hid e1
        have E2 := Lib.hid e2
        clear e1 e2
        go_wp2
        go_ret3
        rw [HPN.out, HPU.out, HE.out]
        exact ⟨ret_b2 E1.out.symm E2.out.symm, HB.out⟩
      · have e1 : rdN l 1 a x = false := by unfold rdN; rw [HI.out]; simp [h0]
        have e2 : ((rdU l 1 a x : Nat) : Int) = i := by unfold rdU; rw [HI.out]; simp; omega
        have E1 := Lib.hid e1
        have E2 := Lib.hid e2
        have h1 : 0 ≤ i := by omega
        clear e1 e2
        go_wp2
        go_ret3
        rw [HPN.out, HPU.out, HE.out]
        exact ⟨ret_b2 E1.out.symm E2.out.symm, HB.out⟩
    · go_wp2
      go_ret3
      rw [HPN.out, HPU.out, HE.out]
      exact ⟨rfl, HB.out⟩
    · have hbd := loadI_64 l a x
      have b1 := hbd.1
      have b2 := hbd.2
      obtain ⟨i, hi⟩ : ∃ i, loadI l a x = i := ⟨_, rfl⟩
      rw [hi] at b1 b2
      have HI := Lib.hid hi
      clear hi hbd hmin
      go_wp2_with fail
      go_at_call 90
      refine (rloadi_spec A _ c a x l _ HL.out hn).mono ?_
      rw [HI.out]
      rintro e w3 ⟨rfl, hb⟩
      clear x0 x1 x2 x3
      replace HB := Lib.hid (pure_below HB.out hb)
      replace HX := Lib.hid (HX.out.pure hb)
      replace HL := Lib.hid (HL.out.pure hb)
      clear hb
      have x0 := cell0 HX.out
      have x1 := cell1 HX.out
      have x2 := cell2 HX.out
      have x3 := cell3 HX.out
      by_cases h0 : i < 0
      · have e1 : rdN l 6 a x = true := by unfold rdN; rw [HI.out]; simp [h0]
        have e2 : ((rdU l 6 a x : Nat) : Int) = -(i + 1) + 1 := by unfold rdU; rw [HI.out]; simp; omega
        have E1 := Lib.hid e1
        have E2 := Lib.hid e2
        clear e1 e2
        go_wp2
        go_ret3
        rw [HPN.out, HPU.out, HE.out]
        exact ⟨ret_b2 E1.out.symm E2.out.symm, HB.out⟩
      · have e1 : rdN l 6 a x = false := by unfold rdN; rw [HI.out]; simp [h0]
        have e2 : ((rdU l 6 a x : Nat) : Int) = i := by unfold rdU; rw [HI.out]; simp; omega
        have E1 := Lib.hid e1
        have E2 := Lib.hid e2
        have h1 : 0 ≤ i := by omega
        clear e1 e2
        go_wp2
        go_ret3
        rw [HPN.out, HPU.out, HE.out]
        exact ⟨ret_b2 E1.out.symm E2.out.symm, HB.out⟩
    · go_wp2
      go_ret3
      rw [HPN.out, HPU.out, HE.out]
      exact ⟨rfl, HB.out⟩
    · go_wp2
      go_ret3
      rw [HPN.out, HPU.out, HE.out]
      exact ⟨rfl, HB.out⟩
  · have hne : (plcE l p q t v != 0) = true := by simpa using he
    have HPN := Lib.hid (show scN l p q t v = false by unfold scN; rw [decide_eq_false he]; rfl)
    have HPU := Lib.hid (show scU l p q t v = 0 from if_neg he)
    clear he
    go_wp2
    go_ret3
    rw [HPN.out, HPU.out]
    exact ⟨rfl, HB.out⟩
end Go.Proofs.Ytogaifggpfipaaa
