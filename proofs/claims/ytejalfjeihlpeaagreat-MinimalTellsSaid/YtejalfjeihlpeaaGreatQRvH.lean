/-
  Package accordionref28: the parts of a document; the property CoverTells.
-/
import Derived.Test.YtejalfjeihlpeaaGreatQRvG
namespace Go.Proofs.YtejalfjeihlpeaaGreat
open Go.RowKit Go.Acc
set_option maxRecDepth 100000 in
set_option maxHeartbeats 1000000 in
theorem rparts_spec (A : Option Addr) (n c : Nat) (fuel : Int) (l : List UInt8) (w : World) (hl : IsB w A n l) (hc : n ≤ c) (hn : n ≤ 4294967296) (hf : fuel ≤ 100000000) :
    Calls Tryz.prog 9 #[.slice A n c, .int .i64 fuel] w fun e w' => ∃ A' k c', e = .returned (.tuple #[.slice A' k c', .int .i64 (cvPartsE l fuel)]) ∧ OwnP w' w.heap.size A' k c' (cvParts l fuel) ∧ Below w.heap.size w w' := by
  have hlen := hl.1
  have HI := Lib.hid hl
  clear hl
  by_cases hr : rootE l = 0
  · obtain ⟨hok, h3⟩ := root_ok hr
    have HOK := Lib.hid hok
    have HR := Lib.hid hr
    clear hok hr
    go_enter Tryz.func9, Tryz.ntmps9
    go_wp2_with fail
    go_at_call 32
    refine (rroot_spec A n c l _ HI.out (by omega)).mono ?_
    rintro e w1 ⟨rfl, hb⟩
    rw [HR.out]
    obtain ⟨a, ha⟩ : ∃ a, (rootR l).1 = a := ⟨_, rfl⟩
    obtain ⟨b, hb'⟩ : ∃ a, (rootR l).2.1 = a := ⟨_, rfl⟩
    obtain ⟨d, hd⟩ : ∃ a, (rootR l).2.2.1 = a := ⟨_, rfl⟩
    obtain ⟨f, hf'⟩ : ∃ a, (rootR l).2.2.2 = a := ⟨_, rfl⟩
    rw [ha, hb', hd, hf']
    replace HI := Lib.hid (HI.out.pure hb)
    have HB := Lib.hid hb
    have hrt : cvRoot l = ⟨a, b, d, f⟩ := by unfold cvRoot; rw [ha, hb', hd, hf']
    rw [ha, hb', hd, hf'] at HOK
    have HRT := Lib.hid hrt
    clear hb ha hb' hd hf' hrt
    go_upto_region 5 with fail
    obtain ⟨E, hE⟩ : ∃ E : RvE, E = ⟨w1.heap.size, w1.heap.size + 1 + 1, w1.heap.size + 1, A, n, c, l⟩ := ⟨_, rfl⟩
    have hok : E.Ok := by
      subst hE
      refine ⟨?_, ?_, ?_, hc, hn⟩ <;> (try (simp only; omega))
      intro ad had
      obtain ⟨b', off, e, hlt⟩ := HI.out.some_ bc_len (by omega) (by omega)
      simp only at had
      rw [e] at had
      injection had with had
      subst had
      exact hlt
    obtain ⟨W, hW⟩ : ∃ W, W = (w1.alloc (.cells #[.int .i64 a, .int .i64 b, .int .i64 d, .int .i64 f] 48)).alloc (.cells #[.slice A n c, .int .i64 fuel, .slice none 0 0, .slice none 0 0] 65) := ⟨_, rfl⟩
    have hsz : W.heap.size = w1.heap.size + 1 + 1 := by subst hW; simp
    have hbW : Below w1.heap.size w1 W := by
      subst hW
      exact ((Below.refl _ _).alloc (Nat.le_refl _) _).alloc (by simp <;> omega) _
    have hX : RLone E (none, none) W w1.heap.size 48 #[.int .i64 a, .int .i64 b, .int .i64 d, .int .i64 f] := by
      refine ⟨?_, ?_⟩
      · subst hW
        exact (Blk.new w1 _ _).alloc _
      · subst hE
        refine ⟨?_, ?_, ?_⟩
        · simp only; omega
        · simp
        · simp
    have hC : RvW E (none, none) ⟨fuel, [], []⟩ W := by
      refine ⟨hok, ?_, ⟨none, 0, 0, none, 0, 0, ?_, Own.nil _ _, Own.nil _ _, rfl, rfl⟩, ?_⟩
      · subst hE
        exact HI.out.pure hbW
      · subst hE hW
        exact Blk.new_ (by simp) _ _
      · subst hE
        rw [hsz]
        exact Nat.le_refl _
    have hbw : E.bw = w1.heap.size + 1 := by rw [hE]
    have hEl : E.l = l := by rw [hE]
    have hB0 : E.B0 = w1.heap.size := by rw [hE]
    rw [← hW, ← hbw]
    have HLE := Lib.hid (show w.heap.size ≤ E.B0 by rw [hB0]; exact HB.out.size)
    have HLE2 := Lib.hid (show w.heap.size ≤ E.B2 by have := HB.out.size; rw [hE]; simp only; omega)
    have HW0 := Lib.hid (HB.out.trans (hbW.mono HB.out.size))
    have HC := Lib.hid hC
    have HC0 := Lib.hid hC
    have HX := Lib.hid hX
    have HS0 := Lib.hid (show cvS1 l fuel = ((CvS.mk fuel [] []).tell ((l.length : Int) - 1) l.length 14).tell ((l.length : Int) - 2) ((l.length : Int) - 1) 8 from rfl)
    have HBB := Lib.hid (RvTo.refl E (none, none) W)
    clear hW hsz hbW hX hC hbw hB0 hE
    have hwr1 : IntKind.i64.wrap ((n : Int) - 1) = (n : Int) - 1 := IntWalk.i64_in _ (by omega)
    have hwr2 : IntKind.i64.wrap ((n : Int) - 2) = (n : Int) - 2 := IntWalk.i64_in _ (by omega)
    generalize w1.heap.size = br at HX ⊢
    have x0 := cell0 HX.out.1; have x1 := cell1 HX.out.1; have x2 := cell2 HX.out.1; have x3 := cell3 HX.out.1
    obtain ⟨W0, rfl⟩ : ∃ W0 : World, W0 = W := ⟨_, rfl⟩
    have HB := HBB
    clear HBB
    go_wp2_with fail
    go_at_call 33
    with_reducible refine (rpart_spec E _ _ ((n : Int) - 1) n 14 _ HC.out (by omega) (by simp)).mono ?_
    rintro e w2 ⟨rfl, g2, hC2, hT2⟩
    replace HB := Lib.hid (HB.out.trans hT2); replace HX := Lib.hid (HX.out.to hT2); replace HC := Lib.hid hC2; clear x0 x1 x2 x3; clear hC2 hT2; have x0 := cell0 HX.out.1; have x1 := cell1 HX.out.1; have x2 := cell2 HX.out.1; have x3 := cell3 HX.out.1
    go_wp2_with fail
    go_at_call 33
    with_reducible refine (rpart_spec E _ _ ((n : Int) - 2) ((n : Int) - 1) 8 _ HC.out (by omega) (by unfold CvS.tell; split <;> simp)).mono ?_
    rintro e w3 ⟨rfl, g3, hC3, hT3⟩
    replace HB := Lib.hid (HB.out.trans hT3); replace HX := Lib.hid (HX.out.to hT3); replace HC := Lib.hid hC3; clear x0 x1 x2 x3; clear hC3 hT3; have x0 := cell0 HX.out.1; have x1 := cell1 HX.out.1; have x2 := cell2 HX.out.1; have x3 := cell3 HX.out.1
    have hs1 : ((CvS.mk fuel [] []).tell ((n : Int) - 1) n 14).tell ((n : Int) - 2) ((n : Int) - 1) 8 = cvS1 l fuel := by rw [HS0.out, hlen]
    have hsl : (cvS1 l fuel).left = fuel := by unfold cvS1; rw [tell_left, tell_left]
    have hsh : (cvS1 l fuel).had = [] := by unfold cvS1; rw [tell_had, tell_had]
    have hso : (cvS1 l fuel).out.length ≤ 2 := by
      unfold cvS1
      have h1 := tell_len (CvS.tell ⟨fuel, [], []⟩ ((l.length : Int) - 1) l.length 14) ((l.length : Int) - 2) ((l.length : Int) - 1) 8
      have h2 := tell_len ⟨fuel, [], []⟩ ((l.length : Int) - 1) l.length 14
      simp only [List.length_nil] at h2
      omega
    have hsz : (cvS1 l fuel).size ≤ 900000000 := by
      unfold CvS.size
      rw [hsl]
      omega
    have hhs : (cvS1 l fuel).had.length + (cvS1 l fuel).left.toNat ≤ 900000000 := by
      rw [hsl, hsh]
      simp only [List.length_nil]
      omega
    rw [hs1] at HC
    obtain ⟨y, hy⟩ : ∃ y, cvVisit l fuel = y := ⟨_, rfl⟩
    have hcome : cvCome E.l (fuel.toNat + 1) ⟨a, b, d, f⟩ (cvS1 l fuel) = y := by rw [hEl, ← HRT.out]; exact hy
    have hcs := rcomes_spec E (fuel.toNat + 1) g3 (cvS1 l fuel) a b d f w3 HC.out (by rw [hsl]; omega) hsz hhs (by rw [hEl]; exact HOK.out)
    rw [hcome] at hcs
    have hpe : cvPartsE l fuel = y.2 := by unfold cvPartsE; rw [if_neg (by simp [HR.out]), hy]
    have hps : cvParts l fuel = if y.2 ≠ 0 then [] else cvSort y.1.out := by unfold cvParts; rw [hpe, hy]
    have HCS := Lib.hid hcs
    have HPE := Lib.hid hpe
    have HPS := Lib.hid hps
    clear hs1 hsl hsh hso hsz hhs hcome hcs hpe hps hy HS0
    go_wp2_with fail
    go_at_call 34
    refine HCS.out.mono ?_
    rintro e w4 ⟨rfl, g4, hC4, hT4⟩
    obtain ⟨s4, er⟩ := y
    simp only at hC4 HPS HPE ⊢
    replace HB := Lib.hid (HB.out.trans hT4); replace HX := Lib.hid (HX.out.to hT4); replace HC := Lib.hid hC4; clear x0 x1 x2 x3; clear hC4 hT4; have x0 := cell0 HX.out.1; have x1 := cell1 HX.out.1; have x2 := cell2 HX.out.1; have x3 := cell3 HX.out.1
    have hbf : Below w.heap.size w w4 := HW0.out.trans ((HB.out.belowB HC0.out).mono HLE.out)
    have HBF := Lib.hid hbf
    clear hbf
    by_cases her : er = 0
    · subst her
      have hps : cvParts l fuel = cvSort s4.out := by rw [HPS.out]; rfl
      have HPS2 := Lib.hid hps
      obtain ⟨Ah, nh, ch, Al, nl, cl, hblk, _, hown, _⟩ := HC.out.R
      have v3 : _ = some (Value.slice Al nl cl) := hblk.cell 3
      have HOW := Lib.hid hown
      clear hps hown hblk
      go_wp2_with fail
      go_ret2
      rw [HPE.out, HPS2.out]
      exact ⟨_, nl, cl, rfl, HOW.out.rebase HLE2.out, HBF.out⟩
    · have hne : (er != 0) = true := by simpa using her
      have hps : cvParts l fuel = [] := by rw [HPS.out, if_pos her]
      have HPS2 := Lib.hid hps
      clear hps her
      go_wp2_with fail
      go_ret2
      rw [HPE.out, HPS2.out]
      exact ⟨none, 0, 0, rfl, Own.nil _ _, HBF.out⟩
  · have hne : (rootE l != 0) = true := by simpa using hr
    have hpe : cvPartsE l fuel = rootE l := by unfold cvPartsE; rw [if_pos hr]
    have hps : cvParts l fuel = [] := by unfold cvParts; rw [hpe, if_pos hr]
    have HPE := Lib.hid hpe
    have HPS := Lib.hid hps
    clear hpe hps hr
    go_enter Tryz.func9, Tryz.ntmps9
    go_wp2_with fail
    go_at_call 32
    refine (rroot_spec A n c l _ HI.out (by omega)).mono ?_
    rintro e w1 ⟨rfl, hb⟩
    have HB := Lib.hid (hb.alloc hb.size (.cells #[.int .i64 (rootR l).1, .int .i64 (rootR l).2.1, .int .i64 (rootR l).2.2.1, .int .i64 (rootR l).2.2.2] 48))
    clear hb
    go_wp2_with fail
    go_ret2
    rw [HPE.out, HPS.out]
    exact ⟨none, 0, 0, rfl, Own.nil _ _, HB.out⟩
set_option maxRecDepth 100000 in
set_option maxHeartbeats 1000000 in
theorem rsame28_yes (A1 A2 : Option Addr) (n c1 c2 : Nat) (L : List P3) (w : World) (h1 : IsP w A1 n L) (h2 : IsP w A2 n L) (hm : n ≤ 9223372036854775807) :
    Calls Tryz.prog 10 #[.slice A1 n c1, .slice A2 n c2] w fun e w' => e = .returned (.bool true) ∧ Below w.heap.size w w' := by
  have HL := Lib.hid h1
  have HO := Lib.hid h2
  have HB := Lib.hid (Below.refl w.heap.size w)
  clear h1 h2
  go_enter Tryz.func10, Tryz.ntmps10
  go_wp2_with fail
  go_loopw [5] (fun i wr => ∃ k : Nat, k ≤ n ∧ i = .int .i64 k ∧ Below w.heap.size w wr ∧ IsP wr A1 n L ∧ IsP wr A2 n L) (fun i _ => n - (intOf i).toNat)
  case atStart => exact ⟨0, by omega, rfl, HB.out, HL.out, HO.out⟩
  case round =>
    clear HB HL HO
    obtain ⟨k, hk, rfl, hb, h1, h2⟩ := hrel
    have HB := Lib.hid hb
    have I1 := Lib.hid h1
    have I2 := Lib.hid h2
    have hLn : L.length = n := h1.1
    clear hb h1 h2
    by_cases hkn : k < n
    · obtain ⟨b1, o1, e1, h1⟩ := isp_at I1.out hkn
      obtain ⟨b2, o2, e2, h2⟩ := isp_at I2.out hkn
      obtain ⟨⟨x, y, z⟩, hx⟩ : ∃ x, L[k]? = some x := ⟨_, List.getElem?_eq_getElem (by omega)⟩
      obtain ⟨a0, a1, a2⟩ := h1 x y z hx
      obtain ⟨c0, c1, c2⟩ := h2 x y z hx
      have heq := part_neq (x, y, z) (x, y, z) false (by simp)
      have hk0 : (0 : Int) ≤ k := by omega
      have hkI : (k : Int) < n := by omega
      have hwk : IntKind.i64.wrap ((k : Int) + 1) = (k : Int) + 1 := IntWalk.i64_in _ (by omega)
      subst e1 e2
      clear h1 h2 hx hLn
      go_wp2_with fail
      go_quiet (fail)
      go_wp2_with fail
      go_roundw
      case rel => exact ⟨k + 1, by omega, by go_num, below_drewN HB.out _, I1.out.drewN _, I2.out.drewN _⟩
      case measure => simp [intOf]; omega
    · obtain rfl : k = n := by omega
      clear hLn
      go_wp2
      go_ret
      exact ⟨rfl, HB.out⟩
set_option maxRecDepth 100000 in
set_option maxHeartbeats 1000000 in
theorem covertells_spec (A : Option Addr) (n c : Nat) (f : Int) (l : List UInt8) (w : World) (h : IsB w A n l) (hc : n ≤ c) :
    Calls Tryz.prog 3 #[.slice A n c, .int .i64 f] w fun e w' => e = .returned (.bool true) ∧ Below w.heap.size w w' := by
  have HM := Lib.hid h
  clear h
  go_enter Tryz.func3, Tryz.ntmps3
  go_wp2_with fail
  go_at_call 7
  refine (bytes28_spec A n c l _ HM.out hc).mono ?_
  rintro e w1 ⟨A1, n1, c1, rfl, hn1, hO1, hb1⟩
  have hc1 := hO1.cap.1
  have HO := Lib.hid hO1.is
  have HB := Lib.hid hb1
  replace HM := Lib.hid (HM.out.pure hb1)
  clear hO1 hb1
  obtain ⟨g, hg⟩ : ∃ z, min f 2000 = z := ⟨_, rfl⟩
  have hg2 : g ≤ 100000000 := by omega
  have HG := Lib.hid hg
  clear hg
  go_wp2_with fail
  go_at_call 8
  rw [HG.out]
  obtain ⟨E, hE⟩ : ∃ z, cvPartsE (l.take 1500) g = z := ⟨_, rfl⟩
  obtain ⟨L, hL⟩ : ∃ z, cvParts (l.take 1500) g = z := ⟨_, rfl⟩
  have p1 := parts_spec A1 n1 c1 g (l.take 1500) w1 HO.out hc1 (by omega) hg2
  have p2 := fun W (h : IsB W A1 n1 (l.take 1500)) => rparts_spec A1 n1 c1 g (l.take 1500) W h hc1 (by omega) hg2
  rw [hE, hL] at p1 p2
  have P2 := Lib.hid p2
  refine p1.mono ?_
  rintro e w2 ⟨A2, k2, c2, rfl, hO2, hb2⟩
  replace HO := Lib.hid (HO.out.pure hb2)
  replace HB := Lib.hid (pure_below HB.out hb2)
  replace HM := Lib.hid (HM.out.pure hb2)
  have HO2 := Lib.hid hO2.is
  have hmx : k2 ≤ 9223372036854775807 := by have := hO2.cap; simp only [maxLen] at this; omega
  clear hO2 hb2 p1 p2 hE hL hg2
  go_wp2_with fail
  go_at_call 9
  refine (P2.out _ HO.out).mono ?_
  rintro e w3 ⟨A3, k3, c3, rfl, hO3, hb3⟩
  replace HO := Lib.hid (HO.out.pure hb3)
  replace HO2 := Lib.hid (HO2.out.pure hb3)
  replace HB := Lib.hid (pure_below HB.out hb3)
  replace HM := Lib.hid (HM.out.pure hb3)
  have HO3 := Lib.hid hO3.is
  obtain rfl : k2 = k3 := by rw [← HO2.out.1, HO3.out.1]
  clear hO3 hb3 P2 HG
  go_wp2_with fail
  go_at_call 10
  refine (rsame28_yes A2 A3 k2 c2 c3 L _ HO2.out HO3.out hmx).mono ?_
  rintro e w4 ⟨rfl, hb⟩
  replace HO := Lib.hid (HO.out.pure hb)
  replace HB := Lib.hid (pure_below HB.out hb)
  replace HM := Lib.hid (HM.out.pure hb)
  clear hb HO2 HO3 hmx
  go_wp2_with fail
  go_at_call 7
  refine (bytes28_spec A n c l _ HM.out hc).mono ?_
  rintro e w5 ⟨A5, n5, c5, rfl, hn5, hO5, hb5⟩
  have HO5 := Lib.hid hO5.is
  replace HO := Lib.hid (HO.out.pure hb5)
  replace HB := Lib.hid (pure_below HB.out hb5)
  clear hO5 hb5
  go_wp2_with fail
  go_at_call 11
  refine (eqb_spec A1 A5 n1 n5 c1 c5 _ _ _ HO.out HO5.out).mono ?_
  rw [eqB_self]
  rintro e w6 ⟨rfl, rfl⟩
  go_wp2_with fail
  go_at_call 12
  refine (cvworks_spec _).mono ?_
  rintro e w7 ⟨rfl, hb⟩
  replace HB := Lib.hid (pure_below HB.out hb)
  clear hb
  go_wp2
  go_ret
  exact ⟨rfl, HB.out⟩
end Go.Proofs.YtejalfjeihlpeaaGreat
