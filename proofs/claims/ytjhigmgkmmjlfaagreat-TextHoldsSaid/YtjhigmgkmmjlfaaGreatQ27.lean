/-
  Package text: the contents at a reference.
  Package text: Place, Key, Str, Blob, Text.
  The reference of package text: Place.
-/
import Derived.Test.YtjhigmgkmmjlfaaGreatQ26
namespace Go.Proofs.YtjhigmgkmmjlfaaGreat
open Go.RowKit Go.Acc
def isIn (ts : List Nat) (t : Int) : Bool := ts.contains t.toNat
def fndE (l : List UInt8) (p q t v : Int) (ts : List Nat) : Int :=
  if mayE l.length p q t v ≠ 0 then mayE l.length p q t v
  else if isIn ts t = false then 60
  else if tgtE l p q t v ≠ 0 then tgtE l p q t v
  else if t = 4 then keyE l (tgt l p q t v).toNat
  else cntE l (tgt l p q t v).toNat v.toNat (if t = 5 then 1 else 0)
def fndA (l : List UInt8) (p q t v : Int) (ts : List Nat) : Int := if fndE l p q t v ts = 0 then tgt l p q t v else 0
def fndL (l : List UInt8) (p q t v : Int) (ts : List Nat) : List UInt8 :=
  if fndE l p q t v ts = 0 then (if t = 4 then keyL l (tgt l p q t v).toNat else cntL l (tgt l p q t v).toNat v.toNat) else []
theorem in_bytes {ts : List Nat} {t : Int} (hts : ∀ x ∈ ts, x < 256) (h0 : 0 ≤ t) (h1 : t < 37) : (ts.map UInt8.ofNat).contains (UInt8.ofNat t.toNat) = isIn ts t := by
  unfold isIn
  induction ts with
  | nil => simp
  | cons x ts ih =>
    rw [List.map_cons, List.contains_cons, List.contains_cons, ih (fun y hy => hts y (List.mem_cons_of_mem _ hy))]
    congr 1
    have hx := hts x (List.mem_cons_self ..)
    rw [Bool.eq_iff_iff]
    simp only [beq_iff_eq]
    constructor
    · intro e
      have := congrArg UInt8.toNat e
      rw [UInt8.toNat_ofNat', UInt8.toNat_ofNat'] at this
      omega
    · intro e; rw [e]
theorem tgt_rng {l : List UInt8} {p q t v : Int} (h : tgtE l p q t v = 0) : 0 ≤ tgt l p q t v ∧ tgt l p q t v ≤ l.length := by
  have hm : mayE l.length p q t v = 0 := by
    by_cases e : mayE l.length p q t v = 0
    · exact e
    · rw [tgtE_may e] at h; exact absurd h e
  obtain ⟨_, h2⟩ := mayE_ok.1 hm
  obtain ⟨h1, _⟩ := mayE_ok.1 hm
  have h2 := inB_iff.1 h2
  have h1 := formed_iff.1 h1
  have hq := isW_iff.1 h1.2.1
  unfold tgtE at h
  rw [if_pos hm] at h
  unfold tgt
  have h' : tgtE l p q t v = 0 := by unfold tgtE; rw [if_pos hm]; exact h
  rw [if_pos h']
  split at h
  · cases h
  · split at h
    · cases h
    · omega
theorem found_no {w w' : World} {A : Option Addr} {n : Nat} {l : List UInt8} {p q t v er : Int} {ts : List Nat} (h : fndE l p q t v ts = er) (hne : er ≠ 0) (hb : Below w.heap.size w w') : FoundW w A n l (fndA l p q t v ts) (fndL l p q t v ts) (fndE l p q t v ts) (.returned (.tuple #[.agg #[.int .i64 0, .slice none 0 0], .int .i64 er])) w' := by
  unfold fndA fndL
  rw [h, if_neg hne, if_neg hne]
  exact ⟨none, 0, 0, rfl, fun _ _ => Is.nil _ _, Nat.le_refl _, hb⟩
theorem counted_spec2 (A : Option Addr) (n c a V K : Nat) (v k : Int) (l : List UInt8) (w : World) (h : IsB w A n l) (hc : n ≤ c) (ha : a ≤ n) (hn : n ≤ 1099511627776) (hv : isW (V : Int) = true) (hk : K ≤ 1) (hv2 : v = V) (hk2 : k = K) :
    Calls Tryz.prog 110 #[.slice A n c, .int .i64 a, .int .i64 v, .int .i64 k] w (FoundW w A n l (if cntE l a V K = 0 then a else 0) (if cntE l a V K = 0 then cntL l a V else []) (cntE l a V K)) := by
  subst hv2 hk2
  exact counted_spec A n c a V K l w h hc ha hn hv hk
set_option maxHeartbeats 2000000 in
theorem find_spec (A : Option Addr) (n c : Nat) (p q t v : Int) (T : Option Addr) (m d : Nat) (ts : List Nat) (l : List UInt8) (w : World) (h : IsB w A n l) (hT : Is tc w T m ts) (hc : n ≤ c) (hn : n ≤ 1099511627776) (hm : 0 < m ∧ m ≤ 100) (hts : ∀ x ∈ ts, x < 256) :
    Calls Tryz.prog 66 #[.slice A n c, .agg #[.int .i64 p, .int .i64 q, .int .i64 t, .int .i64 v], .slice T m d] w (FoundW w A n l (fndA l p q t v ts) (fndL l p q t v ts) (fndE l p q t v ts)) := by
  have hlen := h.1
  subst hlen
  have HL := Lib.hid ((h.alloc (.cells #[.int .i64 p, .int .i64 q, .int .i64 t, .int .i64 v] 36)).alloc (.cells #[.int .i64 0, .slice none 0 0] 105))
  have HTY := Lib.hid ((hT.alloc (.cells #[.int .i64 p, .int .i64 q, .int .i64 t, .int .i64 v] 36)).alloc (.cells #[.int .i64 0, .slice none 0 0] 105))
  have HK := Lib.hid ((Blk.new w 36 #[.int .i64 p, .int .i64 q, .int .i64 t, .int .i64 v]).alloc (.cells #[.int .i64 0, .slice none 0 0] 105))
  have HR := Lib.hid (Blk.new_ (w := w.alloc (.cells #[.int .i64 p, .int .i64 q, .int .i64 t, .int .i64 v] 36)) (g := w.heap.size + 1) (by simp) 105 #[.int .i64 0, .slice none 0 0])
  have HB := Lib.hid (((Below.refl w.heap.size w).alloc (Nat.le_refl _) (.cells #[.int .i64 p, .int .i64 q, .int .i64 t, .int .i64 v] 36)).alloc (by simp) (.cells #[.int .i64 0, .slice none 0 0] 105))
  have HTS := Lib.hid hts
  have hn63 : l.length ≤ 9223372036854775807 := by omega
  have hm1 := hm.1
  have hm2 := hm.2
  have HL0 := Lib.hid h
  clear h hT hts hm
  go_enter Tryz.func66, Tryz.ntmps66
  go_wp2_with fail
  go_at_call 16
  refine (may_spec A _ c p q t v _ hn63).mono ?_
  rintro e w1 ⟨rfl, hb⟩
  by_cases hmay : mayE l.length p q t v = 0
  · rw [hmay]
    have HB := Lib.hid (pure_below HB.out hb); have HK := Lib.hid (HK.out.pure hb); have HL := Lib.hid (HL.out.pure hb); have HTY := Lib.hid (HTY.out.pure hb); have HR := Lib.hid (HR.out.pure hb); have c0 := cell0 HK.out; have c1 := cell1 HK.out; have c2 := cell2 HK.out; have c3 := cell3 HK.out; have f0 := HR.out.frozen 0; have f1 := HR.out.frozen 1; have d0 : _ = some (Value.int .i64 0) := HR.out.cell 0; have d1 : _ = some (Value.slice none 0 0) := HR.out.cell 1; clear hb
    have ht37 := isT_iff.1 (legal_isT (formed_iff.1 (mayE_ok.1 hmay).1).1)
    have ht0 := ht37.1
    have ht1 := ht37.2
    have HIN := Lib.hid ((idx_neg (ts.map UInt8.ofNat) (UInt8.ofNat t.toNat)).trans (by rw [in_bytes HTS.out ht0 ht1]))
    have hwt : IntKind.u8.wrap t = ((UInt8.ofNat t.toNat).toNat : Int) := by
      rw [IntKind.wrap_u8, UInt8.toNat_ofNat']
      omega
    have HWT := Lib.hid hwt
    clear ht37 hwt
    go_wp2_with fail
    have HTYD : Hid (Is tc w1.drew T m ts) := Lib.hid (show Is tc w1 T m ts from HTY.out)
    go_region_held3 (fun w' => w'.cell? ⟨w.heap.size, 2, none⟩ = some (.int .i64 t)) (first | assumption | exact cell_pure HB5.out c2)
      (first
      | (go_at_call 108; refine (asb_spec T m d ts _ HTYD.out hm2 HTS.out).mono ?_; rintro e w5 ⟨AX, nX, cX, rfl, hOX, hb5⟩; have HOX := Lib.hid hOX; have HB5 := Lib.hid hb5; clear hOX hb5)
      | (go_at_call 107; refine (bidx_spec AX nX cX _ (UInt8.ofNat t.toNat) _ _ HOX.out.is (by have h1 := HOX.out.1; have h2 := HTYD.out.1; rw [List.length_map] at h1; omega) HWT.out).mono ?_; rintro e w6 ⟨rfl, rfl⟩))
    have hb := pure_below (Below.refl w1.heap.size w1).drew HB5.out
    rw [HIN.out]
    clear c0 c1 c2 c3 f0 f1 d0 d1
    have HB := Lib.hid (pure_below HB.out hb); have HK := Lib.hid (HK.out.pure hb); have HL := Lib.hid (HL.out.pure hb); have HTY := Lib.hid (HTY.out.pure hb); have HR := Lib.hid (HR.out.pure hb); have c0 := cell0 HK.out; have c1 := cell1 HK.out; have c2 := cell2 HK.out; have c3 := cell3 HK.out; have f0 := HR.out.frozen 0; have f1 := HR.out.frozen 1; have d0 : _ = some (Value.int .i64 0) := HR.out.cell 0; have d1 : _ = some (Value.slice none 0 0) := HR.out.cell 1; clear hb
    clear HOX HB5 HTYD HWT HIN
    cases hin : isIn ts t with
    | false =>
      have HE := Lib.hid (show fndE l p q t v ts = 60 by unfold fndE; rw [if_neg (by simpa using hmay), if_pos hin])
      clear hin hmay
      go_wp2
      refine bodyPost_ret (v := .tuple #[.agg #[.int .i64 0, .slice none 0 0], .int .i64 (60)]) (by simp [results, Tryz.results66, go_sem, d0, d1]) rfl ?_
      exact found_no HE.out (by decide) ((HB.out.setCell (Nat.le_succ _) _).setCell (Nat.le_succ _) _)
    | true =>
      have HE0 := Lib.hid (show fndE l p q t v ts = if tgtE l p q t v ≠ 0 then tgtE l p q t v else if t = 4 then keyE l (tgt l p q t v).toNat else cntE l (tgt l p q t v).toNat v.toNat (if t = 5 then 1 else 0) by unfold fndE; rw [if_neg (by simpa using hmay), if_neg (by simp [hin])])
      clear hin
      have hv8 := (formed_iff.1 (mayE_ok.1 hmay).1).2.2
      obtain ⟨V, hV⟩ : ∃ V : Nat, v = V := ⟨v.toNat, by have := isW_iff.1 hv8; omega⟩
      have HV := Lib.hid (show isW (V : Int) = true by rw [← hV]; exact hv8)
      have HVE := Lib.hid hV
      have hvn : v.toNat = V := by omega
      rw [hvn] at HE0
      clear hmay hv8 hV
      go_wp2_with fail
      go_at_call 18
      refine (target_spec A _ c p q t v l _ HL.out hc hn63).mono ?_
      rintro e w2 ⟨rfl, hb⟩
      clear c0 c1 c2 c3 f0 f1 d0 d1
      have HB := Lib.hid (pure_below HB.out hb); have HK := Lib.hid (HK.out.pure hb); have HL := Lib.hid (HL.out.pure hb); have HTY := Lib.hid (HTY.out.pure hb); have HR := Lib.hid (HR.out.pure hb); have c0 := cell0 HK.out; have c1 := cell1 HK.out; have c2 := cell2 HK.out; have c3 := cell3 HK.out; have f0 := HR.out.frozen 0; have f1 := HR.out.frozen 1; have d0 : _ = some (Value.int .i64 0) := HR.out.cell 0; have d1 : _ = some (Value.slice none 0 0) := HR.out.cell 1; clear hb
      by_cases hte : tgtE l p q t v = 0
      · rw [hte]
        have HE1 := Lib.hid (show fndE l p q t v ts = if t = 4 then keyE l (tgt l p q t v).toNat else cntE l (tgt l p q t v).toNat V (if t = 5 then 1 else 0) by rw [HE0.out, if_neg (by simpa using hte)])
        have hr := tgt_rng hte
        have HG := Lib.hid (show ∀ er : Int, fndE l p q t v ts = er → fndA l p q t v ts = (if er = 0 then tgt l p q t v else 0) ∧ fndL l p q t v ts = (if er = 0 then (if t = 4 then keyL l (tgt l p q t v).toNat else cntL l (tgt l p q t v).toNat V) else []) from fun er h => ⟨by unfold fndA; rw [h], by unfold fndL; rw [h, hvn]⟩)
        obtain ⟨a, ha⟩ : ∃ a : Nat, tgt l p q t v = a := ⟨(tgt l p q t v).toNat, by omega⟩
        rw [ha] at HG HE1 hr ⊢
        have hal : a ≤ l.length := by omega
        clear hte hr HE0 ha
        by_cases h4 : t = 4
        · have HE2 := Lib.hid (HE1.out.trans (if_pos h4))
          have e4 : (t == 4) = true := beq_iff_eq.2 h4
          have H4 := Lib.hid h4
          clear h4
          go_wp2_with fail
          obtain ⟨ka, hka⟩ : ∃ x, (if keyE l a = 0 then (a : Int) else 0) = x := ⟨_, rfl⟩
          obtain ⟨kl, hkl⟩ : ∃ x, (if keyE l a = 0 then keyL l a else []) = x := ⟨_, rfl⟩
          obtain ⟨ke, hke⟩ : ∃ x, keyE l a = x := ⟨_, rfl⟩
          have HP := Lib.hid (show fndA l p q t v ts = ka ∧ fndL l p q t v ts = kl ∧ fndE l p q t v ts = ke from by
            have hg := HG.out _ HE2.out
            rw [Int.toNat_natCast, if_pos H4.out] at hg
            exact ⟨hg.1.trans hka, hg.2.trans hkl, HE2.out.trans hke⟩)
          go_at_call 109
          refine (key_spec A _ c a l _ HL.out hc hal hn63).mono ?_
          rw [hka, hkl, hke]
          clear hka hkl hke
          rintro e w3 ⟨AY, nY, cY, rfl, hY, hcY, hb⟩
          clear c0 c1 c2 c3 f0 f1 d0 d1
          have HB := Lib.hid (pure_below HB.out hb); have HK := Lib.hid (HK.out.pure hb); have HL := Lib.hid (HL.out.pure hb); have HTY := Lib.hid (HTY.out.pure hb); have HR := Lib.hid (HR.out.pure hb); have c0 := cell0 HK.out; have c1 := cell1 HK.out; have c2 := cell2 HK.out; have c3 := cell3 HK.out; have f0 := HR.out.frozen 0; have f1 := HR.out.frozen 1; have d0 : _ = some (Value.int .i64 0) := HR.out.cell 0; have d1 : _ = some (Value.slice none 0 0) := HR.out.cell 1; clear hb
          have HY := Lib.hid hY
          clear hY
          go_wp2
          refine bodyPost_ret (v := .tuple #[.agg #[.int .i64 ka, .slice AY nY cY], .int .i64 ke]) (by simp [results, Tryz.results66, go_sem, d0, d1]) rfl ?_
          rw [HP.out.1, HP.out.2.1, HP.out.2.2]
          exact ⟨AY, nY, cY, rfl, HY.out, hcY, (HB.out.setCell (Nat.le_succ _) _).setCell (Nat.le_succ _) _⟩
        · have e4 : (t == 4) = false := beq_eq_false_iff_ne.2 h4
          by_cases h5 : t = 5
          · have HE2 := Lib.hid ((HE1.out.trans (if_neg h4)).trans (by rw [if_pos h5]))
            have e5 : (t == 5) = true := beq_iff_eq.2 h5
            have H4 := Lib.hid h4
            clear h4 h5
            go_wp2_with fail
            obtain ⟨ka, hka⟩ : ∃ x, (if cntE l a V 1 = 0 then (a : Int) else 0) = x := ⟨_, rfl⟩
            obtain ⟨kl, hkl⟩ : ∃ x, (if cntE l a V 1 = 0 then cntL l a V else []) = x := ⟨_, rfl⟩
            obtain ⟨ke, hke⟩ : ∃ x, cntE l a V 1 = x := ⟨_, rfl⟩
            have HP := Lib.hid (show fndA l p q t v ts = ka ∧ fndL l p q t v ts = kl ∧ fndE l p q t v ts = ke from by
              have hg := HG.out _ HE2.out
              rw [Int.toNat_natCast, if_neg H4.out] at hg
              rw [Int.toNat_natCast] at HE2
              exact ⟨hg.1.trans hka, hg.2.trans hkl, HE2.out.trans hke⟩)
            go_at_call 110
            refine (counted_spec2 A _ c a V 1 v 1 l _ HL.out hc hal hn HV.out (by omega) HVE.out rfl).mono ?_
            rw [hka, hkl, hke]
            clear hka hkl hke
            rintro e w3 ⟨AY, nY, cY, rfl, hY, hcY, hb⟩
            clear c0 c1 c2 c3 f0 f1 d0 d1
            have HB := Lib.hid (pure_below HB.out hb); have HK := Lib.hid (HK.out.pure hb); have HL := Lib.hid (HL.out.pure hb); have HTY := Lib.hid (HTY.out.pure hb); have HR := Lib.hid (HR.out.pure hb); have c0 := cell0 HK.out; have c1 := cell1 HK.out; have c2 := cell2 HK.out; have c3 := cell3 HK.out; have f0 := HR.out.frozen 0; have f1 := HR.out.frozen 1; have d0 : _ = some (Value.int .i64 0) := HR.out.cell 0; have d1 : _ = some (Value.slice none 0 0) := HR.out.cell 1; clear hb
            have HY := Lib.hid hY
            clear hY
            go_wp2
            refine bodyPost_ret (v := .tuple #[.agg #[.int .i64 ka, .slice AY nY cY], .int .i64 ke]) (by simp [results, Tryz.results66, go_sem, d0, d1]) rfl ?_
            rw [HP.out.1, HP.out.2.1, HP.out.2.2]
            exact ⟨AY, nY, cY, rfl, HY.out, hcY, (HB.out.setCell (Nat.le_succ _) _).setCell (Nat.le_succ _) _⟩
          · have HE2 := Lib.hid ((HE1.out.trans (if_neg h4)).trans (by rw [if_neg h5]))
            have e5 : (t == 5) = false := beq_eq_false_iff_ne.2 h5
            have H4 := Lib.hid h4
            clear h4 h5
            go_wp2_with fail
            obtain ⟨ka, hka⟩ : ∃ x, (if cntE l a V 0 = 0 then (a : Int) else 0) = x := ⟨_, rfl⟩
            obtain ⟨kl, hkl⟩ : ∃ x, (if cntE l a V 0 = 0 then cntL l a V else []) = x := ⟨_, rfl⟩
            obtain ⟨ke, hke⟩ : ∃ x, cntE l a V 0 = x := ⟨_, rfl⟩
            have HP := Lib.hid (show fndA l p q t v ts = ka ∧ fndL l p q t v ts = kl ∧ fndE l p q t v ts = ke from by
              have hg := HG.out _ HE2.out
              rw [Int.toNat_natCast, if_neg H4.out] at hg
              rw [Int.toNat_natCast] at HE2
              exact ⟨hg.1.trans hka, hg.2.trans hkl, HE2.out.trans hke⟩)
            go_at_call 110
            refine (counted_spec2 A _ c a V 0 v 0 l _ HL.out hc hal hn HV.out (by omega) HVE.out rfl).mono ?_
            rw [hka, hkl, hke]
            clear hka hkl hke
            rintro e w3 ⟨AY, nY, cY, rfl, hY, hcY, hb⟩
            clear c0 c1 c2 c3 f0 f1 d0 d1
            have HB := Lib.hid (pure_below HB.out hb); have HK := Lib.hid (HK.out.pure hb); have HL := Lib.hid (HL.out.pure hb); have HTY := Lib.hid (HTY.out.pure hb); have HR := Lib.hid (HR.out.pure hb); have c0 := cell0 HK.out; have c1 := cell1 HK.out; have c2 := cell2 HK.out; have c3 := cell3 HK.out; have f0 := HR.out.frozen 0; have f1 := HR.out.frozen 1; have d0 : _ = some (Value.int .i64 0) := HR.out.cell 0; have d1 : _ = some (Value.slice none 0 0) := HR.out.cell 1; clear hb
            have HY := Lib.hid hY
            clear hY
            go_wp2
            refine bodyPost_ret (v := .tuple #[.agg #[.int .i64 ka, .slice AY nY cY], .int .i64 ke]) (by simp [results, Tryz.results66, go_sem, d0, d1]) rfl ?_
            rw [HP.out.1, HP.out.2.1, HP.out.2.2]
            exact ⟨AY, nY, cY, rfl, HY.out, hcY, (HB.out.setCell (Nat.le_succ _) _).setCell (Nat.le_succ _) _⟩
      · have HE := Lib.hid (show fndE l p q t v ts = tgtE l p q t v by rw [HE0.out, if_pos hte])
        have HNE := Lib.hid hte
        have hne : (tgtE l p q t v != 0) = true := by simpa using hte
        clear hte
        go_wp2
        refine bodyPost_ret (v := .tuple #[.agg #[.int .i64 0, .slice none 0 0], .int .i64 ((tgtE l p q t v))]) (by simp [results, Tryz.results66, go_sem, d0, d1]) rfl ?_
        exact found_no HE.out HNE.out ((HB.out.setCell (Nat.le_succ _) _).setCell (Nat.le_succ _) _)
  · have HE := Lib.hid (show fndE l p q t v ts = mayE l.length p q t v by unfold fndE; rw [if_pos hmay])
    have HNE := Lib.hid hmay
    have hne : (mayE l.length p q t v != 0) = true := by simpa using hmay
    have HB := Lib.hid (pure_below HB.out hb); have HK := Lib.hid (HK.out.pure hb); have HL := Lib.hid (HL.out.pure hb); have HTY := Lib.hid (HTY.out.pure hb); have HR := Lib.hid (HR.out.pure hb); have c0 := cell0 HK.out; have c1 := cell1 HK.out; have c2 := cell2 HK.out; have c3 := cell3 HK.out; have f0 := HR.out.frozen 0; have f1 := HR.out.frozen 1; have d0 : _ = some (Value.int .i64 0) := HR.out.cell 0; have d1 : _ = some (Value.slice none 0 0) := HR.out.cell 1; clear hb
    clear hmay
    go_wp2
    refine bodyPost_ret (v := .tuple #[.agg #[.int .i64 0, .slice none 0 0], .int .i64 ((mayE l.length p q t v))]) (by simp [results, Tryz.results66, go_sem, d0, d1]) rfl ?_
    exact found_no HE.out HNE.out ((HB.out.setCell (Nat.le_succ _) _).setCell (Nat.le_succ _) _)
end Go.Proofs.YtjhigmgkmmjlfaaGreat

namespace Go.Proofs.YtjhigmgkmmjlfaaGreat
open Go.RowKit Go.Acc
theorem istc {w : World} {g n : Nat} (ts : List Nat) (vs : Array Value) (hB : Blk w g 3 vs) (hn : ts.length = n) (h : vs.toList = ts.flatMap tc) : Is tc w (some ⟨g, 0, none⟩) n ts := by
  refine ⟨hn, fun j u hu => ⟨_, _, rfl, ?_⟩⟩
  rw [Nat.zero_add, hB.cell j]
  rw [← h] at hu
  simpa using hu
set_option maxHeartbeats 1000000 in
theorem place_spec (A : Option Addr) (n c : Nat) (p q t v : Int) (l : List UInt8) (w : World) (h : IsB w A n l) (hc : n ≤ c) (hn : n ≤ 1099511627776) :
    Calls Tryz.prog 26 #[.slice A n c, .agg #[.int .i64 p, .int .i64 q, .int .i64 t, .int .i64 v]] w fun e w' => e = .returned (.tuple #[.int .i64 (fndA l p q t v [4, 5, 25]), .int .i64 ((fndL l p q t v [4, 5, 25]).length : Nat), .int .i64 (fndE l p q t v [4, 5, 25])]) ∧ Below w.heap.size w w' := by
  have HL := Lib.hid ((h.alloc (.cells #[.int .i64 p, .int .i64 q, .int .i64 t, .int .i64 v] 36)).alloc (.cells #[.int .i64 4, .int .i64 5, .int .i64 25] 3))
  have HT := Lib.hid (istc (w := (w.alloc (.cells #[.int .i64 p, .int .i64 q, .int .i64 t, .int .i64 v] 36)).alloc (.cells #[.int .i64 4, .int .i64 5, .int .i64 25] 3)) (g := w.heap.size + 1) (n := 3) [4, 5, 25] _ (Blk.new_ (by simp) _ _) rfl rfl)
  have HB := Lib.hid (((Below.refl w.heap.size w).alloc (Nat.le_refl _) (.cells #[.int .i64 p, .int .i64 q, .int .i64 t, .int .i64 v] 36)).alloc (by simp) (.cells #[.int .i64 4, .int .i64 5, .int .i64 25] 3))
  have HL0 := Lib.hid h
  clear h
  go_enter Tryz.func26, Tryz.ntmps26
  go_wp2_with fail
  go_at_call 66
  refine (find_spec A n c p q t v _ 3 3 [4, 5, 25] l _ HL.out HT.out hc hn (by decide) (by decide)).mono ?_
  rintro e w1 ⟨AX, nX, cX, rfl, hX, hcX, hb⟩
  have HB := Lib.hid (pure_below HB.out hb)
  have HN := Lib.hid (hX w HL0.out).1
  clear hX hb
  go_wp2_with fail
  go_quiet (fail)
  go_wp2
  go_ret3
  refine ⟨?_, ?_⟩
  · rw [HN.out]; rfl
  · exact below_drewN (HB.out.alloc HB.out.size _) _
set_option maxHeartbeats 1000000 in
theorem text_spec (A : Option Addr) (n c : Nat) (p q t v : Int) (T : Option Addr) (m d : Nat) (ts : List Nat) (l : List UInt8) (w : World) (h : IsB w A n l) (hT : Is tc w T m ts) (hc : n ≤ c) (hn : n ≤ 1099511627776) (hm : 0 < m ∧ m ≤ 100) (hts : ∀ x ∈ ts, x < 256) :
    Calls Tryz.prog 65 #[.slice A n c, .agg #[.int .i64 p, .int .i64 q, .int .i64 t, .int .i64 v], .slice T m d] w fun e w' => e = .returned (.tuple #[.string ⟨(fndL l p q t v ts).toArray⟩, .int .i64 (fndE l p q t v ts)]) ∧ Below w.heap.size w w' := by
  have HL := Lib.hid (h.alloc (.cells #[.int .i64 p, .int .i64 q, .int .i64 t, .int .i64 v] 36))
  have HT := Lib.hid (hT.alloc (.cells #[.int .i64 p, .int .i64 q, .int .i64 t, .int .i64 v] 36))
  have HB := Lib.hid ((Below.refl w.heap.size w).alloc (Nat.le_refl _) (.cells #[.int .i64 p, .int .i64 q, .int .i64 t, .int .i64 v] 36))
  have HTS := Lib.hid hts
  have HL0 := Lib.hid h
  clear h hT hts
  go_enter Tryz.func65, Tryz.ntmps65
  go_wp2_with fail
  go_at_call 66
  refine (find_spec A n c p q t v T m d ts l _ HL.out HT.out hc hn hm HTS.out).mono ?_
  rintro e w1 ⟨AX, nX, cX, rfl, hX, hcX, hb⟩
  have HB := Lib.hid (pure_below HB.out hb)
  have hst := run_str (c := cX) ((hX w HL0.out).pure (HB.out.alloc HB.out.size (.cells #[.int .i64 (fndA l p q t v ts), .slice AX nX cX] 105)))
  clear hX hb
  go_wp2
  go_ret2
  exact ⟨rfl, HB.out.alloc HB.out.size _⟩
set_option maxHeartbeats 1000000 in
theorem keyt_spec (A : Option Addr) (n c : Nat) (p q t v : Int) (l : List UInt8) (w : World) (h : IsB w A n l) (hc : n ≤ c) (hn : n ≤ 1099511627776) :
    Calls Tryz.prog 22 #[.slice A n c, .agg #[.int .i64 p, .int .i64 q, .int .i64 t, .int .i64 v]] w fun e w' => e = .returned (.tuple #[.string ⟨(fndL l p q t v [4]).toArray⟩, .int .i64 (fndE l p q t v [4])]) ∧ Below w.heap.size w w' := by
  have HL := Lib.hid ((h.alloc (.cells #[.int .i64 p, .int .i64 q, .int .i64 t, .int .i64 v] 36)).alloc (.cells #[.int .i64 4] 3))
  have HT := Lib.hid (istc (w := (w.alloc (.cells #[.int .i64 p, .int .i64 q, .int .i64 t, .int .i64 v] 36)).alloc (.cells #[.int .i64 4] 3)) (g := w.heap.size + 1) (n := 1) [4] _ (Blk.new_ (by simp) _ _) rfl rfl)
  have HB := Lib.hid (((Below.refl w.heap.size w).alloc (Nat.le_refl _) (.cells #[.int .i64 p, .int .i64 q, .int .i64 t, .int .i64 v] 36)).alloc (by simp) (.cells #[.int .i64 4] 3))
  clear h
  go_enter Tryz.func22, Tryz.ntmps22
  go_wp2_with fail
  go_at_call 65
  refine (text_spec A n c p q t v _ 1 1 [4] l _ HL.out HT.out hc hn (by decide) (by decide)).mono ?_
  rintro e w1 ⟨rfl, hb⟩
  have HB := Lib.hid (pure_below HB.out hb)
  clear hb
  go_wp2
  go_ret2
  exact ⟨rfl, HB.out⟩
set_option maxHeartbeats 1000000 in
theorem strt_spec (A : Option Addr) (n c : Nat) (p q t v : Int) (l : List UInt8) (w : World) (h : IsB w A n l) (hc : n ≤ c) (hn : n ≤ 1099511627776) :
    Calls Tryz.prog 23 #[.slice A n c, .agg #[.int .i64 p, .int .i64 q, .int .i64 t, .int .i64 v]] w fun e w' => e = .returned (.tuple #[.string ⟨(fndL l p q t v [5]).toArray⟩, .int .i64 (fndE l p q t v [5])]) ∧ Below w.heap.size w w' := by
  have HL := Lib.hid ((h.alloc (.cells #[.int .i64 p, .int .i64 q, .int .i64 t, .int .i64 v] 36)).alloc (.cells #[.int .i64 5] 3))
  have HT := Lib.hid (istc (w := (w.alloc (.cells #[.int .i64 p, .int .i64 q, .int .i64 t, .int .i64 v] 36)).alloc (.cells #[.int .i64 5] 3)) (g := w.heap.size + 1) (n := 1) [5] _ (Blk.new_ (by simp) _ _) rfl rfl)
  have HB := Lib.hid (((Below.refl w.heap.size w).alloc (Nat.le_refl _) (.cells #[.int .i64 p, .int .i64 q, .int .i64 t, .int .i64 v] 36)).alloc (by simp) (.cells #[.int .i64 5] 3))
  clear h
  go_enter Tryz.func23, Tryz.ntmps23
  go_wp2_with fail
  go_at_call 65
  refine (text_spec A n c p q t v _ 1 1 [5] l _ HL.out HT.out hc hn (by decide) (by decide)).mono ?_
  rintro e w1 ⟨rfl, hb⟩
  have HB := Lib.hid (pure_below HB.out hb)
  clear hb
  go_wp2
  go_ret2
  exact ⟨rfl, HB.out⟩
set_option maxHeartbeats 1000000 in
theorem blobt_spec (A : Option Addr) (n c : Nat) (p q t v : Int) (l : List UInt8) (w : World) (h : IsB w A n l) (hc : n ≤ c) (hn : n ≤ 1099511627776) :
    Calls Tryz.prog 24 #[.slice A n c, .agg #[.int .i64 p, .int .i64 q, .int .i64 t, .int .i64 v]] w fun e w' => e = .returned (.tuple #[.string ⟨(fndL l p q t v [25]).toArray⟩, .int .i64 (fndE l p q t v [25])]) ∧ Below w.heap.size w w' := by
  have HL := Lib.hid ((h.alloc (.cells #[.int .i64 p, .int .i64 q, .int .i64 t, .int .i64 v] 36)).alloc (.cells #[.int .i64 25] 3))
  have HT := Lib.hid (istc (w := (w.alloc (.cells #[.int .i64 p, .int .i64 q, .int .i64 t, .int .i64 v] 36)).alloc (.cells #[.int .i64 25] 3)) (g := w.heap.size + 1) (n := 1) [25] _ (Blk.new_ (by simp) _ _) rfl rfl)
  have HB := Lib.hid (((Below.refl w.heap.size w).alloc (Nat.le_refl _) (.cells #[.int .i64 p, .int .i64 q, .int .i64 t, .int .i64 v] 36)).alloc (by simp) (.cells #[.int .i64 25] 3))
  clear h
  go_enter Tryz.func24, Tryz.ntmps24
  go_wp2_with fail
  go_at_call 65
  refine (text_spec A n c p q t v _ 1 1 [25] l _ HL.out HT.out hc hn (by decide) (by decide)).mono ?_
  rintro e w1 ⟨rfl, hb⟩
  have HB := Lib.hid (pure_below HB.out hb)
  clear hb
  go_wp2
  go_ret2
  exact ⟨rfl, HB.out⟩
set_option maxHeartbeats 1000000 in
theorem textt_spec (A : Option Addr) (n c : Nat) (p q t v : Int) (l : List UInt8) (w : World) (h : IsB w A n l) (hc : n ≤ c) (hn : n ≤ 1099511627776) :
    Calls Tryz.prog 25 #[.slice A n c, .agg #[.int .i64 p, .int .i64 q, .int .i64 t, .int .i64 v]] w fun e w' => e = .returned (.tuple #[.string ⟨(fndL l p q t v [4, 5]).toArray⟩, .int .i64 (fndE l p q t v [4, 5])]) ∧ Below w.heap.size w w' := by
  have HL := Lib.hid ((h.alloc (.cells #[.int .i64 p, .int .i64 q, .int .i64 t, .int .i64 v] 36)).alloc (.cells #[.int .i64 4, .int .i64 5] 3))
  have HT := Lib.hid (istc (w := (w.alloc (.cells #[.int .i64 p, .int .i64 q, .int .i64 t, .int .i64 v] 36)).alloc (.cells #[.int .i64 4, .int .i64 5] 3)) (g := w.heap.size + 1) (n := 2) [4, 5] _ (Blk.new_ (by simp) _ _) rfl rfl)
  have HB := Lib.hid (((Below.refl w.heap.size w).alloc (Nat.le_refl _) (.cells #[.int .i64 p, .int .i64 q, .int .i64 t, .int .i64 v] 36)).alloc (by simp) (.cells #[.int .i64 4, .int .i64 5] 3))
  clear h
  go_enter Tryz.func25, Tryz.ntmps25
  go_wp2_with fail
  go_at_call 65
  refine (text_spec A n c p q t v _ 2 2 [4, 5] l _ HL.out HT.out hc hn (by decide) (by decide)).mono ?_
  rintro e w1 ⟨rfl, hb⟩
  have HB := Lib.hid (pure_below HB.out hb)
  clear hb
  go_wp2
  go_ret2
  exact ⟨rfl, HB.out⟩
end Go.Proofs.YtjhigmgkmmjlfaaGreat

namespace Go.Proofs.YtjhigmgkmmjlfaaGreat
open Go.RowKit Go.Acc
/-- What Place of the reference returns. -/
def PlaceW (w : World) (l : List UInt8) (p q t v : Int) (e : Ending) (w' : World) : Prop :=
  e = .returned (.tuple #[.int .i64 (fndA l p q t v [4, 5, 25]), .int .i64 ((fndL l p q t v [4, 5, 25]).length : Nat), .int .i64 (fndE l p q t v [4, 5, 25])]) ∧ Below w.heap.size w w'
theorem placew_no {w w' : World} {l : List UInt8} {p q t v er : Int} (h : fndE l p q t v [4, 5, 25] = er) (hne : er ≠ 0) (hb : Below w.heap.size w w') : PlaceW w l p q t v (.returned (.tuple #[.int .i64 0, .int .i64 0, .int .i64 er])) w' := by
  unfold PlaceW fndA fndL
  rw [h, if_neg hne, if_neg hne]
  exact ⟨rfl, hb⟩
theorem placew_yes {w w' : World} {l : List UInt8} {p q t v : Int} {a : Nat} {m : List UInt8} {k : Nat} (h : fndE l p q t v [4, 5, 25] = 0) (ha : tgt l p q t v = a) (hm : (if t = 4 then keyL l a else cntL l a v.toNat) = m) (hk : m.length = k) (hb : Below w.heap.size w w') : PlaceW w l p q t v (.returned (.tuple #[.int .i64 a, .int .i64 k, .int .i64 0])) w' := by
  unfold PlaceW fndA fndL
  rw [h, if_pos rfl, if_pos rfl, ha, Int.toNat_natCast, hm, hk]
  exact ⟨rfl, hb⟩
theorem keyL_len {l : List UInt8} {a : Nat} (h : a ≤ l.length) : (keyL l a).length = zeroAt l a - a := by
  have := zeroAt_le h
  unfold keyL
  rw [List.length_take, List.length_drop]
  omega
theorem cntL_len {l : List UInt8} {a v u : Nat} (hu : loadU l ((a : Int) - v) v = u) (h : a + u ≤ l.length) : (cntL l a v).length = u := by
  unfold cntL
  rw [hu, List.length_take, List.length_drop]
  omega
theorem in3 {t : Int} (h0 : 0 ≤ t) : isIn [4, 5, 25] t = decide (t = 4 ∨ t = 5 ∨ t = 25) := by
  unfold isIn
  rw [Bool.eq_iff_iff]
  simp
  omega
end Go.Proofs.YtjhigmgkmmjlfaaGreat
