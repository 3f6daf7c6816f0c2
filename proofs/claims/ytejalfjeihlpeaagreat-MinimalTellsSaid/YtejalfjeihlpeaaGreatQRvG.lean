/-
  Package accordionref28: a visit.
-/
import Derived.Test.YtejalfjeihlpeaaGreatQRvF
namespace Go.Proofs.YtejalfjeihlpeaaGreat
open Go.RowKit Go.Acc
theorem inl_own {t : Int} (h : inlineT t = true) : (if t = 0 then (1 : Int) else if t = 1 then 2 else if t = 2 then 3 else 4) = cvOwn t := by
  rcases rd_cases (inline_rd h) with rfl | rfl | rfl | rfl | rfl | rfl
  · rfl
  · rfl
  · rfl
  · exact absurd h (by decide)
  · exact absurd h (by decide)
  · rfl
theorem inl_no {t : Int} (h : inlineT t = false) : cvOwn t = 5 := by
  have h0 : t ≠ 0 := by rintro rfl; exact absurd h (by decide)
  have h1 : t ≠ 1 := by rintro rfl; exact absurd h (by decide)
  have h2 : t ≠ 2 := by rintro rfl; exact absurd h (by decide)
  have h3 : t ≠ 26 := by rintro rfl; exact absurd h (by decide)
  unfold cvOwn
  rw [if_neg h0, if_neg h1, if_neg h2, if_neg h3]
theorem rinl_is (t r : Int) (w : World) (h : (if t = 0 then (1 : Int) else if t = 1 then 2 else if t = 2 then 3 else 4) = r) : Calls Tryz.prog 64 #[.int .i64 t] w fun e w' => e = .returned (.int .i64 r) ∧ Below w.heap.size w w' := by
  subst h
  exact (rinl_spec t w).mono fun e w' ⟨h1, h2⟩ => ⟨h1, by subst h2; exact Below.refl _ _⟩
theorem rinline_is (t : Int) (b : Bool) (w : World) (h : inlineT t = b) : Calls Tryz.prog 63 #[.int .i64 t] w fun e w' => e = .returned (.bool b) ∧ Below w.heap.size w w' := by
  subst h
  exact (rinline_spec t w).mono fun e w' ⟨h1, h2⟩ => ⟨h1, by subst h2; exact Below.refl _ _⟩
theorem rtarget_is (A : Option Addr) (n c : Nat) (p q t v a er : Int) (l : List UInt8) (w : World) (hl : IsB w A n l) (hn : n ≤ 1099511627776) (h1 : tgt l p q t v = a) (h2 : tgtE l p q t v = er) :
    Calls Tryz.prog 65 #[.slice A n c, .agg #[.int .i64 p, .int .i64 q, .int .i64 t, .int .i64 v]] w fun e w' => e = .returned (.tuple #[.int .i64 a, .int .i64 er]) ∧ Below w.heap.size w w' := by
  subst h1 h2
  exact rtarget_spec A n c p q t v l w hl (by omega)
theorem rsplace_is (A : Option Addr) (n c : Nat) (p q t v a x er : Int) (l : List UInt8) (w : World) (hl : IsB w A n l) (hn : n ≤ 1099511627776) (h1 : plcA l p q t v = a) (h2 : plcW l p q t v = x) (h3 : plcE l p q t v = er) :
    Calls Tryz.prog 68 #[.slice A n c, .agg #[.int .i64 p, .int .i64 q, .int .i64 t, .int .i64 v]] w fun e w' => e = .returned (.tuple #[.int .i64 a, .int .i64 x, .int .i64 er]) ∧ Below w.heap.size w w' := by
  subst h1 h2 h3
  exact rsplace_spec A n c p q t v l w hl (by omega)
theorem burn_rv {E : RvE} {g : Rows2} {s : CvS} {w : World} (h : RvW E g s w) {x : Int} (hx : s.left - 1 = x) : RvW E g s.burn (w.setCell ⟨E.bw, 1, none⟩ (.int .i64 x)) ∧ RvTo E g g w (w.setCell ⟨E.bw, 1, none⟩ (.int .i64 x)) := by
  subst hx
  have hf : Fr (fun k => k = E.bw) w (w.setCell ⟨E.bw, 1, none⟩ (.int .i64 (s.left - 1))) := Fr.setCell (S := fun k => k = E.bw) (Fr.refl _ _) (fun _ => rfl) _
  have ok := h.ok
  have hw0 := ok.w0
  have hw2 := ok.w2
  obtain ⟨Ah, nh, ch, Al, nl, cl, h1, h2, h3, h4, h5⟩ := h.R
  refine ⟨⟨ok, h.b.fr hf ?_, ⟨Ah, nh, ch, Al, nl, cl, h1.set_ 1 _, h2.fr hf ?_, h3.fr hf ?_, h4, h5⟩, Nat.le_trans h.sz hf.size⟩, hf.mono ?_, fun _ _ h => h⟩
  · intro ad had e
    have := ok.hA ad had
    have e : ad.block = E.bw := e
    omega
  · intro ad had e
    have := (h2.addr ad had).2.1
    have e : ad.block = E.bw := e
    omega
  · intro ad had e
    have := (h3.addr ad had).2.1
    have e : ad.block = E.bw := e
    omega
  · rintro k _ rfl hF
    exact hF.1 rfl
theorem plc_tgt {l : List UInt8} {p q t v : Int} (h : plcE l p q t v = 0) (hi : inlineT t = false) : plcA l p q t v = tgt l p q t v := by
  unfold plcA
  rw [if_pos h, if_neg (by rw [hi]; decide)]
set_option maxRecDepth 100000 in
set_option maxHeartbeats 4000000 in
theorem rcomes_spec (E : RvE) : ∀ d, RComesAt E (cvCome E.l d) d
  | 0 => fun g s p q t v w h hd hs hhs hr => absurd hd (Nat.not_lt_zero _)
  | d + 1 => fun g s p q t v w h hd hs hhs hr => by
    have ih := rcomes_spec E d
    have HIH := Lib.hid ih
    have HC := Lib.hid (h.alloc (.cells #[.int .i64 p, .int .i64 q, .int .i64 t, .int .i64 v] 48))
    have HX := Lib.hid (h.lone 48 #[.int .i64 p, .int .i64 q, .int .i64 t, .int .i64 v])
    have HB := Lib.hid ((RvTo.refl E g w).alloc (.cells #[.int .i64 p, .int .i64 q, .int .i64 t, .int .i64 v] 48))
    have hnn := h.ok.hn
    have hlen := h.len
    obtain ⟨hp0, hq1, hq8, hpq⟩ := hr
    simp only at hp0 hq1 hq8 hpq
    clear ih h
    have hleft : 8 * s.left.toNat ≤ 900000000 := by unfold CvS.size at hs; omega
    have c1 := HC.out.c1
    have c0 := (HC.out).c0; have x0 := cell0 HX.out.1; have x1 := cell1 HX.out.1; have x2 := cell2 HX.out.1; have x3 := cell3 HX.out.1
    by_cases hl : s.left < 1
    · have hR : cvCome E.l (d + 1) ⟨p, q, t, v⟩ s = (s, 260) := by unfold cvCome; rw [if_pos hl]
      have HR := Lib.hid hR
      clear hR
      go_enter Tryz.func34, Tryz.ntmps34
      go_wp2_with fail
      go_ret
      rw [HR.out]
      exact ⟨rfl, _, HC.out, HB.out⟩
    · have hwr : IntKind.i64.wrap (s.left - 1) = s.left - 1 := IntWalk.i64_in _ (by omega)
      have hwq : IntKind.i64.wrap (p + q) = p + q := IntWalk.i64_in _ (by omega)
      have hsb : s.burn.size + 8 = s.size := by unfold CvS.size CvS.burn; simp only; omega
      have hst := tell_size s.burn p (p + q) (cvOwn t)
      have hstl := tell_left s.burn p (p + q) (cvOwn t)
      have hsth := tell_had s.burn p (p + q) (cvOwn t)
      have HL := Lib.hid (show 1 ≤ s.left by omega)
      have f1 := HC.out.frozen 1
      have hbc := burn_rv HC.out (x := s.left - 1) rfl
      have HBC := Lib.hid hbc
      have hbo : s.burn.out.length ≤ 1073741824 := by have := size_out s.burn; omega
      clear hbc
      go_enter Tryz.func34, Tryz.ntmps34
      go_upto_region 4 with fail
      replace HC := Lib.hid HBC.out.1
      replace HX := Lib.hid (HX.out.to HBC.out.2)
      replace HB := Lib.hid (HB.out.trans HBC.out.2)
      clear HBC f1 c1
      generalize (w.alloc (.cells #[.int .i64 p, .int .i64 q, .int .i64 t, .int .i64 v] 48)).setCell ⟨E.bw, 1, none⟩ (.int .i64 (s.left - 1)) = w1 at HC HX HB ⊢
      clear c0 x0 x1 x2 x3
      have c0 := (HC.out).c0; have x0 := cell0 HX.out.1; have x1 := cell1 HX.out.1; have x2 := cell2 HX.out.1; have x3 := cell3 HX.out.1
      obtain ⟨s1, hs1⟩ : ∃ s1, s.burn.tell p (p + q) (cvOwn t) = s1 := ⟨_, rfl⟩
      rw [hs1] at hst hstl hsth
      have hss : cvStart ⟨p, q, t, v⟩ s = s1 := hs1
      have hsl1 : s1.left.toNat < d := by rw [hstl]; unfold CvS.burn; simp only; omega
      have hss1 : s1.size ≤ 899999993 := by omega
      have hsh1 : s1.had.length + s1.left.toNat + 1 ≤ 900000000 := by rw [hstl, hsth]; unfold CvS.burn; simp only; omega
      have HSS := Lib.hid hss
      have HS1 := Lib.hid hs1
      clear hst hstl hsth hss hs1 hsb hwr hs hd hleft hhs hl
      go_wp2_with fail
      go_at_call 63
      by_cases hi : inlineT t = true
      · refine (rinline_is t true _ hi).mono ?_
        rintro e w4 ⟨rfl, hb⟩
        replace HB := Lib.hid (HB.out.below hb)
        replace HC := Lib.hid (HC.out.pure hb)
        replace HX := Lib.hid (HX.out.pure hb)
        clear c0 x0 x1 x2 x3
        clear hb
        have c0 := (HC.out).c0; have x0 := cell0 HX.out.1; have x1 := cell1 HX.out.1; have x2 := cell2 HX.out.1; have x3 := cell3 HX.out.1
        have hR : cvCome E.l (d + 1) ⟨p, q, t, v⟩ s = (s1, 0) := by unfold cvCome; rw [if_neg (Int.not_lt.mpr HL.out), if_pos hi, HSS.out]
        have HR := Lib.hid hR
        have HIN := Lib.hid (inl_own hi)
        clear hR hi
        go_wp2_with fail
        go_region_held3 (fun w' => w'.cell? ⟨E.bw, 0, none⟩ = some (.slice E.A E.n E.c) ∧ (w'.cell? ⟨w.heap.size, 0, none⟩ = some (.int .i64 p) ∧ w'.cell? ⟨w.heap.size, 1, none⟩ = some (.int .i64 q) ∧ w'.cell? ⟨w.heap.size, 2, none⟩ = some (.int .i64 t) ∧ w'.cell? ⟨w.heap.size, 3, none⟩ = some (.int .i64 v))) (first | with_reducible exact ⟨c0, x0, x1, x2, x3⟩ | with_reducible exact ⟨ldrew_ c0, ldrew_ x0, ldrew_ x1, ldrew_ x2, ldrew_ x3⟩) (first | (go_at_call 64; (with_reducible refine (rinl_is t (cvOwn t) _ HIN.out).mono ?_); rintro e w5 ⟨rfl, hb⟩; replace HB := Lib.hid (HB.out.drew.below hb); replace HC := Lib.hid (HC.out.drew.pure hb); replace HX := Lib.hid (HX.out.drew.pure hb); clear c0 x0 x1 x2 x3; clear hb; have c0 := (HC.out).c0; have x0 := cell0 HX.out.1; have x1 := cell1 HX.out.1; have x2 := cell2 HX.out.1; have x3 := cell3 HX.out.1) | (go_at_call 33; (with_reducible refine (rpart_spec E _ _ p (p + q) (cvOwn t) _ HC.out (by omega) hbo).mono ?_); rintro e w6 ⟨rfl, hD⟩; rw [HS1.out] at hD; obtain ⟨g3, hC3, hT3⟩ := hD; replace HB := Lib.hid (HB.out.trans hT3); replace HX := Lib.hid (HX.out.to hT3); replace HC := Lib.hid hC3; clear c0 x0 x1 x2 x3; clear hC3 hT3; have c0 := (HC.out).c0; have x0 := cell0 HX.out.1; have x1 := cell1 HX.out.1; have x2 := cell2 HX.out.1; have x3 := cell3 HX.out.1))
        go_wp2_with fail
        go_ret
        rw [HR.out]
        exact ⟨rfl, _, HC.out, HB.out⟩
      · have hi' : inlineT t = false := by simpa using hi
        refine (rinline_is t false _ hi').mono ?_
        rintro e w4 ⟨rfl, hb⟩
        replace HB := Lib.hid (HB.out.below hb)
        replace HC := Lib.hid (HC.out.pure hb)
        replace HX := Lib.hid (HX.out.pure hb)
        clear c0 x0 x1 x2 x3
        clear hb
        have c0 := (HC.out).c0; have x0 := cell0 HX.out.1; have x1 := cell1 HX.out.1; have x2 := cell2 HX.out.1; have x3 := cell3 HX.out.1
        have HI := Lib.hid hi
        have hs15 := HS1.out
        rw [inl_no hi'] at hs15
        have HS5 := Lib.hid hs15
        obtain ⟨a, ha⟩ : ∃ a, tgt E.l p q t v = a := ⟨_, rfl⟩
        obtain ⟨er, her⟩ : ∃ a, tgtE E.l p q t v = a := ⟨_, rfl⟩
        have HA := Lib.hid ha
        have HER := Lib.hid her
        clear hi hi' ha her hs15
        go_wp2_with (go_at_call 33; (with_reducible refine (rpart_spec E _ _ p (p + q) 5 _ HC.out (by omega) hbo).mono ?_); rintro e w6 ⟨rfl, hD⟩; rw [HS5.out] at hD; obtain ⟨g3, hC3, hT3⟩ := hD; replace HB := Lib.hid (HB.out.trans hT3); replace HX := Lib.hid (HX.out.to hT3); replace HC := Lib.hid hC3; clear c0 x0 x1 x2 x3; clear hC3 hT3; have c0 := (HC.out).c0; have x0 := cell0 HX.out.1; have x1 := cell1 HX.out.1; have x2 := cell2 HX.out.1; have x3 := cell3 HX.out.1)
        go_region_held3 (fun w' => w'.cell? ⟨E.bw, 0, none⟩ = some (.slice E.A E.n E.c) ∧ (w'.cell? ⟨w.heap.size, 0, none⟩ = some (.int .i64 p) ∧ w'.cell? ⟨w.heap.size, 1, none⟩ = some (.int .i64 q) ∧ w'.cell? ⟨w.heap.size, 2, none⟩ = some (.int .i64 t) ∧ w'.cell? ⟨w.heap.size, 3, none⟩ = some (.int .i64 v))) (first | with_reducible exact ⟨c0, x0, x1, x2, x3⟩ | with_reducible exact ⟨ldrew_ c0, ldrew_ x0, ldrew_ x1, ldrew_ x2, ldrew_ x3⟩) (first | (go_at_call 65; (with_reducible refine (rtarget_is E.A E.n E.c p q t v a er E.l _ HC.out.drew.b (by omega) HA.out HER.out).mono ?_); rintro e w5 ⟨rfl, hb⟩; replace HB := Lib.hid (HB.out.drew.below hb); replace HC := Lib.hid (HC.out.drew.pure hb); replace HX := Lib.hid (HX.out.drew.pure hb); clear c0 x0 x1 x2 x3; clear hb; have c0 := (HC.out).c0; have x0 := cell0 HX.out.1; have x1 := cell1 HX.out.1; have x2 := cell2 HX.out.1; have x3 := cell3 HX.out.1))
        have hsp : cvSpot E.l ⟨p, q, t, v⟩ = (a, t, v) := by unfold cvSpot; simp only [HA.out]
        have hun : cvCome E.l (d + 1) ⟨p, q, t, v⟩ s = if er ≠ 0 ∨ (a, t, v) ∈ s1.had then (s1, er) else cvData E.l (cvCome E.l d) ⟨p, q, t, v⟩ (s1.see (a, t, v)) := by
          unfold cvCome
          rw [if_neg (Int.not_lt.mpr HL.out), if_neg HI.out, HSS.out, hsp, HER.out]
          have : s1.had = s.had := by rw [← HSS.out]; exact tell_had _ _ _ _
          rw [this]
        have HUN := Lib.hid hun
        clear hsp hun
        by_cases her : er = 0
        · subst her
          have HTE := Lib.hid HER.out
          by_cases hm : (a, t, v) ∈ s1.had
          · have hr := HUN.out
            rw [if_pos (.inr hm)] at hr
            have HR := Lib.hid hr
            have HWS := Lib.hid (fun (g5 : Rows2) (W : World) (h : RvW E g5 s1 W) => rwas_is E g5 s1 s1 true p q t v a W h (by omega) (decide_eq_true hm) (if_pos hm))
            clear hr hm
            go_wp2_with fail
            go_at_call 66
            refine (HWS.out _ _ HC.out).mono ?_
            rintro e w7 ⟨rfl, g7, hC7, hT7⟩
            replace HB := Lib.hid (HB.out.trans hT7); replace HX := Lib.hid (HX.out.to hT7); replace HC := Lib.hid hC7; clear c0 x0 x1 x2 x3; clear hC7 hT7; have c0 := (HC.out).c0; have x0 := cell0 HX.out.1; have x1 := cell1 HX.out.1; have x2 := cell2 HX.out.1; have x3 := cell3 HX.out.1
            go_wp2_with fail
            go_ret
            rw [HR.out]
            exact ⟨rfl, _, HC.out, HB.out⟩
          · have hr := HUN.out
            rw [if_neg (by simp [hm])] at hr
            have HR := Lib.hid hr
            have HWS := Lib.hid (fun (g5 : Rows2) (W : World) (h : RvW E g5 s1 W) => rwas_is E g5 s1 (s1.see (a, t, v)) false p q t v a W h (by omega) (decide_eq_false hm) (if_neg hm))
            clear hr hm
            go_wp2_with fail
            go_at_call 66
            refine (HWS.out _ _ HC.out).mono ?_
            rintro e w7 ⟨rfl, g7, hC7, hT7⟩
            replace HB := Lib.hid (HB.out.trans hT7); replace HX := Lib.hid (HX.out.to hT7); replace HC := Lib.hid hC7; clear c0 x0 x1 x2 x3; clear hC7 hT7; have c0 := (HC.out).c0; have x0 := cell0 HX.out.1; have x1 := cell1 HX.out.1; have x2 := cell2 HX.out.1; have x3 := cell3 HX.out.1
            obtain ⟨s2, hs2⟩ : ∃ s2, s1.see (a, t, v) = s2 := ⟨_, rfl⟩
            have hl2 : s2.left.toNat < d := by subst hs2; exact hsl1
            have hz2 : s2.size ≤ 899999993 := by subst hs2; exact hss1
            have hh2 : s2.had.length + s2.left.toNat ≤ 900000000 := by
              subst hs2
              unfold CvS.see
              simp only [List.length_append, List.length_cons, List.length_nil]
              omega
            rw [hs2] at HC HR
            clear hs2 hsl1 hss1 hsh1 HUN HSS HL HWS
            by_cases h4 : t = 4
            · subst h4
              obtain ⟨y, hy⟩ : ∃ y, cvText E.l ⟨p, q, 4, v⟩ s2 = y := ⟨_, rfl⟩
              have hspec := rvtext_spec E _ s2 p q 4 v a _ HC.out (by have := size_out s2; omega) HA.out
              rw [hy] at hspec
              have hdat := HR.out.trans (show cvData E.l (cvCome E.l d) ⟨p, q, 4, v⟩ s2 = cvText E.l ⟨p, q, 4, v⟩ s2 from rfl)
              rw [hy] at hdat
              have HSP := Lib.hid hspec
              have HDD := Lib.hid hdat
              clear hy hspec hdat
              go_wp2_with fail
              go_at_call 67
              refine HSP.out.mono ?_
              rintro e w8 ⟨rfl, g8, hC8, hT8⟩
              have HC8 := Lib.hid hC8
              have HT8 := Lib.hid hT8
              clear c0 x0 x1 x2 x3
              clear hC8 hT8 HSP
              go_wp2_with fail
              go_ret
              rw [HDD.out]
              exact ⟨rfl, _, HC8.out, HB.out.trans HT8.out⟩
            have e4 : (t == 4) = false := beq_eq_false_iff_ne.mpr h4
            by_cases h5 : t = 5
            · subst h5
              obtain ⟨y, hy⟩ : ∃ y, cvText E.l ⟨p, q, 5, v⟩ s2 = y := ⟨_, rfl⟩
              have hspec := rvtext_spec E _ s2 p q 5 v a _ HC.out (by have := size_out s2; omega) HA.out
              rw [hy] at hspec
              have hdat := HR.out.trans (show cvData E.l (cvCome E.l d) ⟨p, q, 5, v⟩ s2 = cvText E.l ⟨p, q, 5, v⟩ s2 from rfl)
              rw [hy] at hdat
              have HSP := Lib.hid hspec
              have HDD := Lib.hid hdat
              clear hy hspec hdat
              go_wp2_with fail
              go_at_call 67
              refine HSP.out.mono ?_
              rintro e w8 ⟨rfl, g8, hC8, hT8⟩
              have HC8 := Lib.hid hC8
              have HT8 := Lib.hid hT8
              clear c0 x0 x1 x2 x3
              clear hC8 hT8 HSP
              go_wp2_with fail
              go_ret
              rw [HDD.out]
              exact ⟨rfl, _, HC8.out, HB.out.trans HT8.out⟩
            have e5 : (t == 5) = false := beq_eq_false_iff_ne.mpr h5
            by_cases h25 : t = 25
            · subst h25
              obtain ⟨y, hy⟩ : ∃ y, cvText E.l ⟨p, q, 25, v⟩ s2 = y := ⟨_, rfl⟩
              have hspec := rvtext_spec E _ s2 p q 25 v a _ HC.out (by have := size_out s2; omega) HA.out
              rw [hy] at hspec
              have hdat := HR.out.trans (show cvData E.l (cvCome E.l d) ⟨p, q, 25, v⟩ s2 = cvText E.l ⟨p, q, 25, v⟩ s2 from rfl)
              rw [hy] at hdat
              have HSP := Lib.hid hspec
              have HDD := Lib.hid hdat
              clear hy hspec hdat
              go_wp2_with fail
              go_at_call 67
              refine HSP.out.mono ?_
              rintro e w8 ⟨rfl, g8, hC8, hT8⟩
              have HC8 := Lib.hid hC8
              have HT8 := Lib.hid hT8
              clear c0 x0 x1 x2 x3
              clear hC8 hT8 HSP
              go_wp2_with fail
              go_ret
              rw [HDD.out]
              exact ⟨rfl, _, HC8.out, HB.out.trans HT8.out⟩
            have e25 : (t == 25) = false := beq_eq_false_iff_ne.mpr h25
            by_cases h6 : t = 6
            · subst h6
              obtain ⟨n0, hn0⟩ : ∃ x, plcW E.l p q 6 v = x := ⟨_, rfl⟩
              obtain ⟨ef, hef⟩ : ∃ x, plcE E.l p q 6 v = x := ⟨_, rfl⟩
              obtain ⟨pa, hpa⟩ : ∃ x, plcA E.l p q 6 v = x := ⟨_, rfl⟩
              have HN0 := Lib.hid hn0
              have HEF := Lib.hid hef
              have HPA := Lib.hid hpa
              have hdat := HR.out.trans (show cvData E.l (cvCome E.l d) ⟨p, q, 6, v⟩ s2 = cvApart E.l ⟨p, q, 6, v⟩ s2 from rfl)
              have HDD := Lib.hid hdat
              have hla := tgt_rng HTE.out
              rw [HA.out] at hla
              have ha0 := hla.1
              have ha1 : a ≤ 4294967296 := by have := hla.2; omega
              clear hn0 hef hpa hdat hla
              go_wp2_with fail
              go_region_held3 (fun w' => w'.cell? ⟨E.bw, 0, none⟩ = some (.slice E.A E.n E.c) ∧ (w'.cell? ⟨w.heap.size, 0, none⟩ = some (.int .i64 p) ∧ w'.cell? ⟨w.heap.size, 1, none⟩ = some (.int .i64 q) ∧ w'.cell? ⟨w.heap.size, 2, none⟩ = some (.int .i64 6) ∧ w'.cell? ⟨w.heap.size, 3, none⟩ = some (.int .i64 v))) (first | with_reducible exact ⟨c0, x0, x1, x2, x3⟩ | with_reducible exact ⟨ldrew_ c0, ldrew_ x0, ldrew_ x1, ldrew_ x2, ldrew_ x3⟩) (first | (go_at_call 68; (with_reducible refine (rsplace_is E.A E.n E.c p q 6 v pa n0 ef E.l _ HC.out.drew.b (by omega) HPA.out HN0.out HEF.out).mono ?_); rintro e w9 ⟨rfl, hb⟩; replace HB := Lib.hid (HB.out.drew.below hb); replace HC := Lib.hid (HC.out.drew.pure hb); replace HX := Lib.hid (HX.out.drew.pure hb); clear c0 x0 x1 x2 x3; clear hb; have c0 := (HC.out).c0; have x0 := cell0 HX.out.1; have x1 := cell1 HX.out.1; have x2 := cell2 HX.out.1; have x3 := cell3 HX.out.1))
              by_cases hf0 : ef = 0
              · subst hf0
                have hroom := apart_room HEF.out
                have htg := plc_tgt HEF.out (show inlineT 6 = false by decide)
                rw [HPA.out, HA.out] at htg
                subst htg
                rw [HPA.out, HN0.out] at hroom
                have hn00 := hroom.2.2
                have hn01 : n0 ≤ 4294967296 := by have := hroom.2.1; omega
                have hw1 : IntKind.i64.wrap (pa + n0) = pa + n0 := IntWalk.i64_in _ (by omega)
                have hre : cvApart E.l ⟨p, q, 6, v⟩ s2 = (s2.tell pa (pa + n0) 12, 0) := by
                  unfold cvApart
                  simp only [HEF.out, HPA.out, HN0.out, if_true]
                  (try rfl)
                have HRE := Lib.hid hre
                clear hroom hre
                go_wp2_with (go_at_call 33; (with_reducible refine (rpart_spec E _ _ pa (pa + n0) 12 _ HC.out (by omega) (by have := size_out s2; omega)).mono ?_); rintro e w2 ⟨rfl, g2, hC2, hT2⟩; replace HB := Lib.hid (HB.out.trans hT2); replace HX := Lib.hid (HX.out.to hT2); replace HC := Lib.hid hC2; clear c0 x0 x1 x2 x3; clear hC2 hT2; have c0 := (HC.out).c0; have x0 := cell0 HX.out.1; have x1 := cell1 HX.out.1; have x2 := cell2 HX.out.1; have x3 := cell3 HX.out.1)
                go_ret
                rw [HDD.out, HRE.out]
                exact ⟨rfl, _, HC.out, HB.out⟩
              · have hne : (ef != 0) = true := by simpa using hf0
                have hre : cvApart E.l ⟨p, q, 6, v⟩ s2 = (s2, ef) := by
                  unfold cvApart
                  simp only [HEF.out]
                  rw [if_neg hf0]
                have HRE := Lib.hid hre
                clear hre hf0
                go_wp2_with fail
                go_ret
                rw [HDD.out, HRE.out]
                exact ⟨rfl, _, HC.out, HB.out⟩
            have e6 : (t == 6) = false := beq_eq_false_iff_ne.mpr h6
            by_cases h7 : t = 7
            · subst h7
              obtain ⟨n0, hn0⟩ : ∃ x, plcW E.l p q 7 v = x := ⟨_, rfl⟩
              obtain ⟨ef, hef⟩ : ∃ x, plcE E.l p q 7 v = x := ⟨_, rfl⟩
              obtain ⟨pa, hpa⟩ : ∃ x, plcA E.l p q 7 v = x := ⟨_, rfl⟩
              have HN0 := Lib.hid hn0
              have HEF := Lib.hid hef
              have HPA := Lib.hid hpa
              have hdat := HR.out.trans (show cvData E.l (cvCome E.l d) ⟨p, q, 7, v⟩ s2 = cvApart E.l ⟨p, q, 7, v⟩ s2 from rfl)
              have HDD := Lib.hid hdat
              have hla := tgt_rng HTE.out
              rw [HA.out] at hla
              have ha0 := hla.1
              have ha1 : a ≤ 4294967296 := by have := hla.2; omega
              clear hn0 hef hpa hdat hla
              go_wp2_with fail
              go_region_held3 (fun w' => w'.cell? ⟨E.bw, 0, none⟩ = some (.slice E.A E.n E.c) ∧ (w'.cell? ⟨w.heap.size, 0, none⟩ = some (.int .i64 p) ∧ w'.cell? ⟨w.heap.size, 1, none⟩ = some (.int .i64 q) ∧ w'.cell? ⟨w.heap.size, 2, none⟩ = some (.int .i64 7) ∧ w'.cell? ⟨w.heap.size, 3, none⟩ = some (.int .i64 v))) (first | with_reducible exact ⟨c0, x0, x1, x2, x3⟩ | with_reducible exact ⟨ldrew_ c0, ldrew_ x0, ldrew_ x1, ldrew_ x2, ldrew_ x3⟩) (first | (go_at_call 68; (with_reducible refine (rsplace_is E.A E.n E.c p q 7 v pa n0 ef E.l _ HC.out.drew.b (by omega) HPA.out HN0.out HEF.out).mono ?_); rintro e w9 ⟨rfl, hb⟩; replace HB := Lib.hid (HB.out.drew.below hb); replace HC := Lib.hid (HC.out.drew.pure hb); replace HX := Lib.hid (HX.out.drew.pure hb); clear c0 x0 x1 x2 x3; clear hb; have c0 := (HC.out).c0; have x0 := cell0 HX.out.1; have x1 := cell1 HX.out.1; have x2 := cell2 HX.out.1; have x3 := cell3 HX.out.1))
              by_cases hf0 : ef = 0
              · subst hf0
                have hroom := apart_room HEF.out
                have htg := plc_tgt HEF.out (show inlineT 7 = false by decide)
                rw [HPA.out, HA.out] at htg
                subst htg
                rw [HPA.out, HN0.out] at hroom
                have hn00 := hroom.2.2
                have hn01 : n0 ≤ 4294967296 := by have := hroom.2.1; omega
                have hw1 : IntKind.i64.wrap (pa + n0) = pa + n0 := IntWalk.i64_in _ (by omega)
                have hre : cvApart E.l ⟨p, q, 7, v⟩ s2 = (s2.tell pa (pa + n0) 13, 0) := by
                  unfold cvApart
                  simp only [HEF.out, HPA.out, HN0.out, if_true]
                  (try rfl)
                have HRE := Lib.hid hre
                clear hroom hre
                go_wp2_with (go_at_call 33; (with_reducible refine (rpart_spec E _ _ pa (pa + n0) 13 _ HC.out (by omega) (by have := size_out s2; omega)).mono ?_); rintro e w2 ⟨rfl, g2, hC2, hT2⟩; replace HB := Lib.hid (HB.out.trans hT2); replace HX := Lib.hid (HX.out.to hT2); replace HC := Lib.hid hC2; clear c0 x0 x1 x2 x3; clear hC2 hT2; have c0 := (HC.out).c0; have x0 := cell0 HX.out.1; have x1 := cell1 HX.out.1; have x2 := cell2 HX.out.1; have x3 := cell3 HX.out.1)
                go_ret
                rw [HDD.out, HRE.out]
                exact ⟨rfl, _, HC.out, HB.out⟩
              · have hne : (ef != 0) = true := by simpa using hf0
                have hre : cvApart E.l ⟨p, q, 7, v⟩ s2 = (s2, ef) := by
                  unfold cvApart
                  simp only [HEF.out]
                  rw [if_neg hf0]
                have HRE := Lib.hid hre
                clear hre hf0
                go_wp2_with fail
                go_ret
                rw [HDD.out, HRE.out]
                exact ⟨rfl, _, HC.out, HB.out⟩
            have e7 : (t == 7) = false := beq_eq_false_iff_ne.mpr h7
            have hdata : cvData E.l (cvCome E.l d) ⟨p, q, t, v⟩ s2 = cvList E.l (cvCome E.l d) ⟨p, q, t, v⟩ s2 := by
              unfold cvData
              rw [if_neg (by simp [isIn]; omega), if_neg (by simp only; omega)]
            have HDT := Lib.hid hdata
            clear hdata h4 h5 h25 h6 h7
            obtain ⟨y, hy⟩ : ∃ y, cvList E.l (cvCome E.l d) ⟨p, q, t, v⟩ s2 = y := ⟨_, rfl⟩
            have hspec := rvlist_spec E _ d HIH.out (come_goes E.l d) (come_hd E.l d) _ s2 p q t v a _ HC.out hl2 (by omega) hh2 HA.out
            rw [hy] at hspec
            have hdat := HR.out.trans (show cvData E.l (cvCome E.l d) ⟨p, q, t, v⟩ s2 = cvList E.l (cvCome E.l d) ⟨p, q, t, v⟩ s2 from HDT.out)
            rw [hy] at hdat
            have HSP := Lib.hid hspec
            have HDD := Lib.hid hdat
            clear hy hspec hdat
            go_wp2_with fail
            go_at_call 69
            refine HSP.out.mono ?_
            rintro e w8 ⟨rfl, g8, hC8, hT8⟩
            have HC8 := Lib.hid hC8
            have HT8 := Lib.hid hT8
            clear c0 x0 x1 x2 x3
            clear hC8 hT8 HSP
            go_wp2_with fail
            go_ret
            rw [HDD.out]
            exact ⟨rfl, _, HC8.out, HB.out.trans HT8.out⟩
        · have hne : (er != 0) = true := by simpa using her
          have hr := HUN.out
          rw [if_pos (.inl her)] at hr
          have HR := Lib.hid hr
          clear hr her
          go_wp2_with fail
          go_ret
          rw [HR.out]
          exact ⟨rfl, _, HC.out, HB.out⟩
end Go.Proofs.YtejalfjeihlpeaaGreat
