/-
  The reference of package text: Place.
  The reference of package text: Key, Str, Blob, Text.
-/
import Derived.Test.YtejalfjeihlpeaaGreatQ18
namespace Go.Proofs.YtejalfjeihlpeaaGreat
open Go.RowKit Go.Acc
/-- What Place of the reference returns. -/
def PlaceW (w : World) (l : List UInt8) (p q t v : Int) (e : Ending) (w' : World) : Prop :=
  e = .returned (.tuple #[.int .i64 (fndA l p q t v [4, 5, 25]), .int .i64 ((fndL l p q t v [4, 5, 25]).length : Nat), .int .i64 (fndE l p q t v [4, 5, 25])]) ∧ Below w.heap.size w w'
theorem placew_no {w w' : World} {l : List UInt8} {p q t v er : Int} (h : fndE l p q t v [4, 5, 25] = er) (hne : er ≠ 0) (hb : Below w.heap.size w w') : PlaceW w l p q t v (.returned (.tuple #[.int .i64 0, .int .i64 0, .int .i64 er])) w' := by
  unfold PlaceW fndA fndL
  rw [h, if_neg hne, if_neg hne]
  exact ⟨rfl, hb⟩
theorem placew_yes {w w' : World} {l : List UInt8} {p q t v : Int} {a : Nat} {m : List UInt8} {k : Nat} (h : fndE l p q t v [4, 5, 25] = 0) (ha : tgt l p q t v = a) (hm : (if t = 4 then keyL l a else cntL l a v.toNat) = m) (hk : m.length = k) (hb : Below w.heap.size w w') : PlaceW w l p q t v (.returned (.tuple #[.int .i64 a, .int .i64 k, .int .i64 0])) w' := by
  unfold PlaceW fndA fndL
  rw [h, if_pos rfl, if_pos rfl, ha, Int.toNat_natCast, hm, hk]
  exact ⟨rfl, hb⟩
theorem keyL_len {l : List UInt8} {a : Nat} (h : a ≤ l.length) : (keyL l a).length = zeroAt l a - a := by
  have := zeroAt_le h
  unfold keyL
  rw [List.length_take, List.length_drop]
  omega
theorem cntL_len {l : List UInt8} {a v u : Nat} (hu : loadU l ((a : Int) - v) v = u) (h : a + u ≤ l.length) : (cntL l a v).length = u := by
  unfold cntL
  rw [hu, List.length_take, List.length_drop]
  omega
theorem in3 {t : Int} (h0 : 0 ≤ t) : isIn [4, 5, 25] t = decide (t = 4 ∨ t = 5 ∨ t = 25) := by
  unfold isIn
  rw [Bool.eq_iff_iff]
  simp
  omega
set_option maxRecDepth 100000 in
set_option maxHeartbeats 2000000 in
theorem rplace_spec (A : Option Addr) (n c : Nat) (p q t v : Int) (l : List UInt8) (w : World) (h : IsB w A n l) (hn : n ≤ 1099511627776) :
    Calls Tryz.prog 100 #[.slice A n c, .agg #[.int .i64 p, .int .i64 q, .int .i64 t, .int .i64 v]] w (PlaceW w l p q t v) := by
  have hlen := h.1
  subst hlen
  have HL := Lib.hid (h.alloc (.cells #[.int .i64 p, .int .i64 q, .int .i64 t, .int .i64 v] 48))
  have HK := Lib.hid (Blk.new w 48 #[.int .i64 p, .int .i64 q, .int .i64 t, .int .i64 v])
  have HB := Lib.hid ((Below.refl w.heap.size w).alloc (Nat.le_refl _) (.cells #[.int .i64 p, .int .i64 q, .int .i64 t, .int .i64 v] 48))
  have hn63 : l.length ≤ 9223372036854775807 := by omega
  clear h
  go_enter Tryz.func100, Tryz.ntmps100
  go_wp2_with fail
  go_at_call 98
  refine (rmay_spec A _ c p q t v _ hn63).mono ?_
  rintro e w1 ⟨rfl, hb⟩
  by_cases hmay : mayE l.length p q t v = 0
  · rw [hmay]
    have HB := Lib.hid (pure_below HB.out hb); have HK := Lib.hid (HK.out.pure hb); have HL := Lib.hid (HL.out.pure hb); have c0 := cell0 HK.out; have c1 := cell1 HK.out; have c2 := cell2 HK.out; have c3 := cell3 HK.out; clear hb
    have ht37 := isT_iff.1 (legal_isT (formed_iff.1 (mayE_ok.1 hmay).1).1)
    have ht0 := ht37.1
    have hv8 := (formed_iff.1 (mayE_ok.1 hmay).1).2.2
    clear ht37
    by_cases hin : t = 4 ∨ t = 5 ∨ t = 25
    · have hin2 : isIn [4, 5, 25] t = true := by rw [in3 ht0]; exact decide_eq_true hin
      have HE0 := Lib.hid (show fndE l p q t v [4, 5, 25] = if tgtE l p q t v ≠ 0 then tgtE l p q t v else if t = 4 then keyE l (tgt l p q t v).toNat else cntE l (tgt l p q t v).toNat v.toNat (if t = 5 then 1 else 0) by unfold fndE; rw [if_neg (by simpa using hmay), if_neg (by simp [hin2])])
      clear hin2
      by_cases h4 : t = 4
      · have e4 : (t == 4) = true := beq_iff_eq.2 h4
        have n4 : (t != 4) = false := by simp [h4]
        have H4 := Lib.hid h4
        clear h4 hin hmay
        go_wp2_with fail
        go_at_call 65
        refine (rtarget_spec A _ c p q t v l _ HL.out hn63).mono ?_
        rintro e w2 ⟨rfl, hb⟩
        clear c0 c1 c2 c3
        have HB := Lib.hid (pure_below HB.out hb); have HK := Lib.hid (HK.out.pure hb); have HL := Lib.hid (HL.out.pure hb); have c0 := cell0 HK.out; have c1 := cell1 HK.out; have c2 := cell2 HK.out; have c3 := cell3 HK.out; clear hb
        by_cases hte : tgtE l p q t v = 0
        · rw [hte]
          have hr := tgt_rng hte
          obtain ⟨a, ha⟩ : ∃ a : Nat, tgt l p q t v = a := ⟨(tgt l p q t v).toNat, by omega⟩
          have HE1 := Lib.hid (show fndE l p q t v [4, 5, 25] = keyE l a by rw [HE0.out, if_neg (by simpa using hte), if_pos H4.out, ha, Int.toNat_natCast])
          have HA := Lib.hid ha
          rw [ha] at hr ⊢
          have hal : a ≤ l.length := by omega
          clear hte hr ha HE0
          go_wp2_with fail
          go_loop [10] (fun i => ∃ k : Nat, a ≤ k ∧ k ≤ l.length ∧ i = .int .i64 k ∧ zeroAt l k = zeroAt l a) (fun i => l.length - (intOf i).toNat)
          case atStart => exact ⟨a, by omega, hal, rfl, rfl⟩
          case round =>
            obtain ⟨k, hak, hk, rfl, hz⟩ := hrel
            have HZ := Lib.hid hz
            clear hz
            by_cases hlt : k < l.length
            · obtain ⟨b, off, rfl, hkl, hc⟩ := isb_at HL.out hlt
              by_cases h0 : l[k] = 0
              · have HE := Lib.hid (show zeroAt l a = k by rw [← HZ.out, zeroAt_hit hlt h0])
                rw [h0] at hc
                clear h0
                go_wp2
                go_ret3
                rw [show (k : Int) - a = ((k - a : Nat) : Int) by omega]
                exact placew_yes (m := keyL l a) (k := k - a) (by rw [HE1.out]; unfold keyE; rw [HE.out, if_pos hlt]) HA.out (if_pos H4.out) (by rw [keyL_len hal, HE.out]) HB.out
              · have HE := Lib.hid ((zeroAt_miss hlt h0).trans HZ.out)
                have hb : (l[k].toNat == 0) = false := by
                  rw [beq_eq_false_iff_ne]
                  intro e
                  exact h0 (UInt8.toNat_inj.1 e)
                clear h0
                go_wp2
                go_round
                case rel => exact ⟨k + 1, by omega, by omega, by go_num, HE.out⟩
                case measure => simp [intOf]; omega
            · obtain rfl : l.length = k := by omega
              have HE := Lib.hid (show zeroAt l a = l.length by rw [← HZ.out, zeroAt_end])
              go_wp2
              go_ret3
              exact placew_no (by rw [HE1.out]; unfold keyE; rw [HE.out, if_neg (Nat.lt_irrefl _)]) (by decide) HB.out
        · have HE := Lib.hid (show fndE l p q t v [4, 5, 25] = tgtE l p q t v by rw [HE0.out, if_pos hte])
          have HNE := Lib.hid hte
          have hne : (tgtE l p q t v != 0) = true := by simpa using hte
          clear hte
          go_wp2
          go_ret3
          exact placew_no HE.out HNE.out HB.out
      · by_cases h5 : t = 5
        · have hin' : (t != 4) = true := by simpa using h4
          have n5 : (t != 5) = false := by simp [h5]
          have e4 : (t == 4) = false := beq_eq_false_iff_ne.2 h4
          have e5 : (t == 5) = true := beq_iff_eq.2 h5
          have HK5 := Lib.hid (show (if t = 5 then 1 else 0 : Nat) = 1 from if_pos h5)
          have H4 := Lib.hid h4
          clear h4 h5 hin hmay
          obtain ⟨V, hV⟩ : ∃ V : Nat, v = V := ⟨v.toNat, by have := isW_iff.1 hv8; omega⟩
          have hV8 : isW (V : Int) = true := by rw [← hV]; exact hv8
          have HVE := Lib.hid hV
          have hvn : v.toNat = V := by omega
          have HVN := Lib.hid hvn
          rw [hvn, HK5.out, if_neg H4.out] at HE0
          clear hv8 hV
          go_wp2_with fail
          go_at_call 65
          refine (rtarget_spec A _ c p q t v l _ HL.out hn63).mono ?_
          rintro e w2 ⟨rfl, hb⟩
          clear c0 c1 c2 c3
          have HB := Lib.hid (pure_below HB.out hb); have HK := Lib.hid (HK.out.pure hb); have HL := Lib.hid (HL.out.pure hb); have c0 := cell0 HK.out; have c1 := cell1 HK.out; have c2 := cell2 HK.out; have c3 := cell3 HK.out; clear hb
          by_cases hte : tgtE l p q t v = 0
          · rw [hte]
            have hr := tgt_rng hte
            obtain ⟨a, ha⟩ : ∃ a : Nat, tgt l p q t v = a := ⟨(tgt l p q t v).toNat, by omega⟩
            have HE1 := Lib.hid (show fndE l p q t v [4, 5, 25] = cntE l a V 1 by rw [HE0.out, if_neg (by simpa using hte), ha, Int.toNat_natCast])
            have HA := Lib.hid ha
            rw [ha] at hr ⊢
            have hal : a ≤ l.length := by omega
            obtain ⟨u, hu⟩ : ∃ u, loadU l ((a : Int) - V) V = u := ⟨_, rfl⟩
            have HU := Lib.hid hu
            have hcs := cnt_cases l a V 1 u hu
            have HU2 := Lib.hid (show loadU l ((a : Int) - v) v = u by rw [HVE.out]; exact hu)
            have hv1 : 1 ≤ v ∧ v ≤ 8 := by have := isW_iff.1 hV8; have := HVE.out; omega
            have hv2 := hv1.1
            have hv3 := hv1.2
            have hvz : (v == 0) = false := beq_eq_false_iff_ne.mpr (by omega)
            have hVa := HVE.out
            rcases hcs with ⟨h1, he⟩ | ⟨h1, h2, he⟩ | ⟨h1, h2, h3, he⟩ | ⟨h1, h2, h3, h4, he⟩ | ⟨h1, h2, h3, h4, he⟩
            · have HE := Lib.hid (HE1.out.trans he)
              have hmod : ((a : Int) % v != 0) = true := by rw [hVa]; simp; omega
              clear hte hr ha HE0 hu he h1 hVa hvn hV8 hv1
              go_wp2
              go_ret3
              exact placew_no HE.out (by decide) HB.out
            · have HE := Lib.hid (HE1.out.trans he)
              have hmod : ((a : Int) % v != 0) = false := by rw [hVa]; simp; omega
              have hx : (a : Int) < v := by omega
              clear hte hr ha HE0 hu he h1 hVa hvn hV8 hv1 h2
              go_wp2
              go_ret3
              exact placew_no HE.out (by decide) HB.out
            · have HE := Lib.hid (HE1.out.trans he)
              have hmod : ((a : Int) % v != 0) = false := by rw [hVa]; simp; omega
              have hx : ¬ (a : Int) < v := by omega
              obtain ⟨L, hL⟩ : ∃ L : Nat, L = l.length - a := ⟨_, rfl⟩
              have WL := Lib.hid ((u64_in ((l.length : Int) - a) (by omega)).trans (show (l.length : Int) - a = (L : Int) by omega))
              have HLL := Lib.hid hL
              clear hte hr ha HE0 hu he h1 hVa hvn hV8 hv1 h2
              go_wp2_with fail
              go_at_call 99
              refine (rload_spec A _ c ((a : Int) - v) v l _ HL.out hn63).mono ?_
              rw [HU2.out]
              obtain ⟨er, her⟩ : ∃ er, loadE l.length ((a : Int) - v) v = er := ⟨_, rfl⟩
              rw [her]
              rintro e w3 ⟨rfl, hb⟩
              clear c0 c1 c2 c3
              have HB := Lib.hid (pure_below HB.out hb); have HK := Lib.hid (HK.out.pure hb); have HL := Lib.hid (HL.out.pure hb); have c0 := cell0 HK.out; have c1 := cell1 HK.out; have c2 := cell2 HK.out; have c3 := cell3 HK.out; clear hb
              clear her
              by_cases hd : L < u
              · have hwl := WL.out
                go_wp2
                go_ret3
                exact placew_no HE.out (by decide) HB.out
              · have W1 := Lib.hid (u64_in ((u : Int) + 1) (by omega))
                have hd1 : (L : Int) < (u : Int) + 1 := by omega
                have hd2 : L < u + 1 := by omega
                have hwl := WL.out
                have hw1 := W1.out
                go_wp2
                go_ret3
                exact placew_no HE.out (by decide) HB.out
            · have HE := Lib.hid (HE1.out.trans he)
              have hmod : ((a : Int) % v != 0) = false := by rw [hVa]; simp; omega
              have hx : ¬ (a : Int) < v := by omega
              obtain ⟨L, hL⟩ : ∃ L : Nat, L = l.length - a := ⟨_, rfl⟩
              have WL := Lib.hid ((u64_in ((l.length : Int) - a) (by omega)).trans (show (l.length : Int) - a = (L : Int) by omega))
              have HLL := Lib.hid hL
              clear hte hr ha HE0 hu he h1 hVa hvn hV8 hv1 h2
              go_wp2_with fail
              go_at_call 99
              refine (rload_spec A _ c ((a : Int) - v) v l _ HL.out hn63).mono ?_
              rw [HU2.out]
              obtain ⟨er, her⟩ : ∃ er, loadE l.length ((a : Int) - v) v = er := ⟨_, rfl⟩
              rw [her]
              rintro e w3 ⟨rfl, hb⟩
              clear c0 c1 c2 c3
              have HB := Lib.hid (pure_below HB.out hb); have HK := Lib.hid (HK.out.pure hb); have HL := Lib.hid (HL.out.pure hb); have c0 := cell0 HK.out; have c1 := cell1 HK.out; have c2 := cell2 HK.out; have c3 := cell3 HK.out; clear hb
              clear her
              have hd : ¬ L < u := by omega
              have hd1 : ¬ (L : Int) < (u : Int) + 1 := by omega
              have hd2 : ¬ L < u + 1 := by omega
              have hlt : a + u < l.length := by omega
              have hlt2 : (a : Int) + u < l.length := by omega
              have hge2 : (0 : Int) ≤ (a : Int) + u := by omega
              have W1 := Lib.hid (wrap64_in (u : Int) (by omega))
              have W2 := Lib.hid (u64_in ((u : Int) + 1) (by omega))
              have HCL := Lib.hid (cntL_len HU.out (by omega))
              obtain ⟨b, off, rfl, hk, hc⟩ := isb_at HL.out hlt
              have hone : (l.drop (a + u)).take 1 = [l[a + u]] := by rw [List.drop_eq_getElem_cons hk]; rfl
              rw [hone] at h4
              clear hone
              have hx0 : l[a + u] = 0 := by simpa using h4
              rw [hx0] at hc
              clear hx0 h4 h3
              have hwl := WL.out
              have hw1 := W1.out
              have hw2 := W2.out
              go_wp2
              go_ret3
              exact placew_yes HE.out HA.out (if_neg H4.out) (by rw [HVN.out]; exact HCL.out) HB.out
            · have HE := Lib.hid (HE1.out.trans he)
              have hmod : ((a : Int) % v != 0) = false := by rw [hVa]; simp; omega
              have hx : ¬ (a : Int) < v := by omega
              obtain ⟨L, hL⟩ : ∃ L : Nat, L = l.length - a := ⟨_, rfl⟩
              have WL := Lib.hid ((u64_in ((l.length : Int) - a) (by omega)).trans (show (l.length : Int) - a = (L : Int) by omega))
              have HLL := Lib.hid hL
              clear hte hr ha HE0 hu he h1 hVa hvn hV8 hv1 h2
              go_wp2_with fail
              go_at_call 99
              refine (rload_spec A _ c ((a : Int) - v) v l _ HL.out hn63).mono ?_
              rw [HU2.out]
              obtain ⟨er, her⟩ : ∃ er, loadE l.length ((a : Int) - v) v = er := ⟨_, rfl⟩
              rw [her]
              rintro e w3 ⟨rfl, hb⟩
              clear c0 c1 c2 c3
              have HB := Lib.hid (pure_below HB.out hb); have HK := Lib.hid (HK.out.pure hb); have HL := Lib.hid (HL.out.pure hb); have c0 := cell0 HK.out; have c1 := cell1 HK.out; have c2 := cell2 HK.out; have c3 := cell3 HK.out; clear hb
              clear her
              have hd : ¬ L < u := by omega
              have hd1 : ¬ (L : Int) < (u : Int) + 1 := by omega
              have hd2 : ¬ L < u + 1 := by omega
              have hlt : a + u < l.length := by omega
              have hlt2 : (a : Int) + u < l.length := by omega
              have hge2 : (0 : Int) ≤ (a : Int) + u := by omega
              have W1 := Lib.hid (wrap64_in (u : Int) (by omega))
              have W2 := Lib.hid (u64_in ((u : Int) + 1) (by omega))
              have HCL := Lib.hid (cntL_len HU.out (by omega))
              obtain ⟨b, off, rfl, hk, hc⟩ := isb_at HL.out hlt
              have hone : (l.drop (a + u)).take 1 = [l[a + u]] := by rw [List.drop_eq_getElem_cons hk]; rfl
              rw [hone] at h4
              clear hone
              have hx0 : ¬ l[a + u] = 0 := by simpa using h4
              have hxn : (l[a + u].toNat != 0) = true := by
                rw [bne_iff_ne]
                intro e
                exact hx0 (UInt8.toNat_inj.1 e)
              generalize l[a + u] = xx at hc hxn hx0
              clear hx0 h4 h3
              have hwl := WL.out
              have hw1 := W1.out
              have hw2 := W2.out
              go_wp2
              go_ret3
              exact placew_no HE.out (by decide) HB.out
          · have HE := Lib.hid (show fndE l p q t v [4, 5, 25] = tgtE l p q t v by rw [HE0.out, if_pos hte])
            have HNE := Lib.hid hte
            have hne : (tgtE l p q t v != 0) = true := by simpa using hte
            clear hte
            go_wp2
            go_ret3
            exact placew_no HE.out HNE.out HB.out
        · have hin' : (t != 4) = true := by simpa using h4
          have n5 : (t != 5) = true := by simpa using h5
          have n25 : (t != 25) = false := by simp; omega
          have e4 : (t == 4) = false := beq_eq_false_iff_ne.2 h4
          have e5 : (t == 5) = false := beq_eq_false_iff_ne.2 h5
          have HK5 := Lib.hid (show (if t = 5 then 1 else 0 : Nat) = 0 from if_neg h5)
          have H4 := Lib.hid h4
          clear h4 h5 hin hmay
          obtain ⟨V, hV⟩ : ∃ V : Nat, v = V := ⟨v.toNat, by have := isW_iff.1 hv8; omega⟩
          have hV8 : isW (V : Int) = true := by rw [← hV]; exact hv8
          have HVE := Lib.hid hV
          have hvn : v.toNat = V := by omega
          have HVN := Lib.hid hvn
          rw [hvn, HK5.out, if_neg H4.out] at HE0
          clear hv8 hV
          go_wp2_with fail
          go_at_call 65
          refine (rtarget_spec A _ c p q t v l _ HL.out hn63).mono ?_
          rintro e w2 ⟨rfl, hb⟩
          clear c0 c1 c2 c3
          have HB := Lib.hid (pure_below HB.out hb); have HK := Lib.hid (HK.out.pure hb); have HL := Lib.hid (HL.out.pure hb); have c0 := cell0 HK.out; have c1 := cell1 HK.out; have c2 := cell2 HK.out; have c3 := cell3 HK.out; clear hb
          by_cases hte : tgtE l p q t v = 0
          · rw [hte]
            have hr := tgt_rng hte
            obtain ⟨a, ha⟩ : ∃ a : Nat, tgt l p q t v = a := ⟨(tgt l p q t v).toNat, by omega⟩
            have HE1 := Lib.hid (show fndE l p q t v [4, 5, 25] = cntE l a V 0 by rw [HE0.out, if_neg (by simpa using hte), ha, Int.toNat_natCast])
            have HA := Lib.hid ha
            rw [ha] at hr ⊢
            have hal : a ≤ l.length := by omega
            obtain ⟨u, hu⟩ : ∃ u, loadU l ((a : Int) - V) V = u := ⟨_, rfl⟩
            have HU := Lib.hid hu
            have hcs := cnt_cases l a V 0 u hu
            have HU2 := Lib.hid (show loadU l ((a : Int) - v) v = u by rw [HVE.out]; exact hu)
            have hv1 : 1 ≤ v ∧ v ≤ 8 := by have := isW_iff.1 hV8; have := HVE.out; omega
            have hv2 := hv1.1
            have hv3 := hv1.2
            have hvz : (v == 0) = false := beq_eq_false_iff_ne.mpr (by omega)
            have hVa := HVE.out
            rcases hcs with ⟨h1, he⟩ | ⟨h1, h2, he⟩ | ⟨h1, h2, h3, he⟩ | ⟨h1, h2, h3, h4, he⟩ | ⟨h1, h2, h3, h4, he⟩
            · have HE := Lib.hid (HE1.out.trans he)
              have hmod : ((a : Int) % v != 0) = true := by rw [hVa]; simp; omega
              clear hte hr ha HE0 hu he h1 hVa hvn hV8 hv1
              go_wp2
              go_ret3
              exact placew_no HE.out (by decide) HB.out
            · have HE := Lib.hid (HE1.out.trans he)
              have hmod : ((a : Int) % v != 0) = false := by rw [hVa]; simp; omega
              have hx : (a : Int) < v := by omega
              clear hte hr ha HE0 hu he h1 hVa hvn hV8 hv1 h2
              go_wp2
              go_ret3
              exact placew_no HE.out (by decide) HB.out
            · have HE := Lib.hid (HE1.out.trans he)
              have hmod : ((a : Int) % v != 0) = false := by rw [hVa]; simp; omega
              have hx : ¬ (a : Int) < v := by omega
              obtain ⟨L, hL⟩ : ∃ L : Nat, L = l.length - a := ⟨_, rfl⟩
              have WL := Lib.hid ((u64_in ((l.length : Int) - a) (by omega)).trans (show (l.length : Int) - a = (L : Int) by omega))
              have HLL := Lib.hid hL
              clear hte hr ha HE0 hu he h1 hVa hvn hV8 hv1 h2
              go_wp2_with fail
              go_at_call 99
              refine (rload_spec A _ c ((a : Int) - v) v l _ HL.out hn63).mono ?_
              rw [HU2.out]
              obtain ⟨er, her⟩ : ∃ er, loadE l.length ((a : Int) - v) v = er := ⟨_, rfl⟩
              rw [her]
              rintro e w3 ⟨rfl, hb⟩
              clear c0 c1 c2 c3
              have HB := Lib.hid (pure_below HB.out hb); have HK := Lib.hid (HK.out.pure hb); have HL := Lib.hid (HL.out.pure hb); have c0 := cell0 HK.out; have c1 := cell1 HK.out; have c2 := cell2 HK.out; have c3 := cell3 HK.out; clear hb
              clear her
              have hd : L < u := by omega
              have hwl := WL.out
              go_wp2
              go_ret3
              exact placew_no HE.out (by decide) HB.out
            · have HE := Lib.hid (HE1.out.trans he)
              have hmod : ((a : Int) % v != 0) = false := by rw [hVa]; simp; omega
              have hx : ¬ (a : Int) < v := by omega
              obtain ⟨L, hL⟩ : ∃ L : Nat, L = l.length - a := ⟨_, rfl⟩
              have WL := Lib.hid ((u64_in ((l.length : Int) - a) (by omega)).trans (show (l.length : Int) - a = (L : Int) by omega))
              have HLL := Lib.hid hL
              clear hte hr ha HE0 hu he h1 hVa hvn hV8 hv1 h2
              go_wp2_with fail
              go_at_call 99
              refine (rload_spec A _ c ((a : Int) - v) v l _ HL.out hn63).mono ?_
              rw [HU2.out]
              obtain ⟨er, her⟩ : ∃ er, loadE l.length ((a : Int) - v) v = er := ⟨_, rfl⟩
              rw [her]
              rintro e w3 ⟨rfl, hb⟩
              clear c0 c1 c2 c3
              have HB := Lib.hid (pure_below HB.out hb); have HK := Lib.hid (HK.out.pure hb); have HL := Lib.hid (HL.out.pure hb); have c0 := cell0 HK.out; have c1 := cell1 HK.out; have c2 := cell2 HK.out; have c3 := cell3 HK.out; clear hb
              clear her
              have hd : ¬ L < u := by omega
              have W1 := Lib.hid (wrap64_in (u : Int) (by omega))
              have HCL := Lib.hid (cntL_len HU.out (by omega))
              have hwl := WL.out
              have hw1 := W1.out
              go_wp2
              go_ret3
              exact placew_yes HE.out HA.out (if_neg H4.out) (by rw [HVN.out]; exact HCL.out) HB.out
            · exact absurd (by simp) h4
          · have HE := Lib.hid (show fndE l p q t v [4, 5, 25] = tgtE l p q t v by rw [HE0.out, if_pos hte])
            have HNE := Lib.hid hte
            have hne : (tgtE l p q t v != 0) = true := by simpa using hte
            clear hte
            go_wp2
            go_ret3
            exact placew_no HE.out HNE.out HB.out
    · have H4 : ¬ t = 4 := fun e => hin (.inl e)
      have H5 : ¬ t = 5 := fun e => hin (.inr (.inl e))
      have H25 : ¬ t = 25 := fun e => hin (.inr (.inr e))
      have n4 : (t != 4) = true := by simpa using H4
      have n5 : (t != 5) = true := by simpa using H5
      have n25 : (t != 25) = true := by simpa using H25
      have HE := Lib.hid (show fndE l p q t v [4, 5, 25] = 60 by unfold fndE; rw [if_neg (by simpa using hmay), if_pos (by rw [in3 ht0]; exact decide_eq_false hin)])
      clear hin hmay H4 H5 H25
      go_wp2
      go_ret3
      exact placew_no HE.out (by decide) HB.out
  · have HE := Lib.hid (show fndE l p q t v [4, 5, 25] = mayE l.length p q t v by unfold fndE; rw [if_pos hmay])
    have HNE := Lib.hid hmay
    have hne : (mayE l.length p q t v != 0) = true := by simpa using hmay
    have HB := Lib.hid (pure_below HB.out hb); have HK := Lib.hid (HK.out.pure hb); have HL := Lib.hid (HL.out.pure hb); have c0 := cell0 HK.out; have c1 := cell1 HK.out; have c2 := cell2 HK.out; have c3 := cell3 HK.out; clear hb
    clear hmay
    go_wp2
    go_ret3
    exact placew_no HE.out HNE.out HB.out
end Go.Proofs.YtejalfjeihlpeaaGreat

namespace Go.Proofs.YtejalfjeihlpeaaGreat
open Go.RowKit Go.Acc
theorem fnd_sub {l : List UInt8} {p q t v : Int} {ts : List Nat} (h : isIn ts t = true) (h3 : isIn [4, 5, 25] t = true) : fndE l p q t v ts = fndE l p q t v [4, 5, 25] ∧ fndL l p q t v ts = fndL l p q t v [4, 5, 25] := by
  have e : fndE l p q t v ts = fndE l p q t v [4, 5, 25] := by
    unfold fndE
    rw [h, h3]
  refine ⟨e, ?_⟩
  unfold fndL
  rw [e]
theorem take_self {l : List UInt8} {a k : Nat} : (l.drop a).take k = (l.drop a).take ((l.drop a).take k).length := by
  rw [List.length_take, List.take_eq_take_iff]
  simp
theorem fnd_take {l : List UInt8} {p q t v : Int} (h : fndE l p q t v [4, 5, 25] = 0) : ∃ a : Nat, fndA l p q t v [4, 5, 25] = a ∧ fndL l p q t v [4, 5, 25] = (l.drop a).take (fndL l p q t v [4, 5, 25]).length ∧ a + (fndL l p q t v [4, 5, 25]).length ≤ l.length := by
  have ht : tgtE l p q t v = 0 := by
    by_cases hm : mayE l.length p q t v = 0
    · by_cases hi : isIn [4, 5, 25] t = false
      · unfold fndE at h
        rw [if_neg (by simpa using hm), if_pos hi] at h
        cases h
      · by_cases hte : tgtE l p q t v = 0
        · exact hte
        · unfold fndE at h
          rw [if_neg (by simpa using hm), if_neg hi, if_pos hte] at h
          exact absurd h hte
    · unfold fndE at h
      rw [if_pos hm] at h
      exact absurd h hm
  have hr := tgt_rng ht
  refine ⟨(tgt l p q t v).toNat, ?_, ?_, ?_⟩
  · unfold fndA
    rw [if_pos h]
    omega
  · unfold fndL
    rw [if_pos h]
    split
    · unfold keyL; exact take_self
    · unfold cntL; exact take_self
  · unfold fndL
    rw [if_pos h]
    split
    · unfold keyL
      rw [List.length_take, List.length_drop]
      omega
    · unfold cntL
      rw [List.length_take, List.length_drop]
      omega
def TextW (w : World) (l : List UInt8) (p q t v : Int) (ts : List Nat) (e : Ending) (w' : World) : Prop :=
  e = .returned (.tuple #[.string ⟨(fndL l p q t v ts).toArray⟩, .int .i64 (fndE l p q t v ts)]) ∧ Below w.heap.size w w'
theorem textw_no {w w' : World} {l : List UInt8} {p q t v er : Int} {ts : List Nat} (h : fndE l p q t v ts = er) (hne : er ≠ 0) (hb : Below w.heap.size w w') : TextW w l p q t v ts (.returned (.tuple #[.string ⟨#[]⟩, .int .i64 er])) w' := by
  unfold TextW fndL
  rw [h, if_neg hne]
  exact ⟨rfl, hb⟩
end Go.Proofs.YtejalfjeihlpeaaGreat
