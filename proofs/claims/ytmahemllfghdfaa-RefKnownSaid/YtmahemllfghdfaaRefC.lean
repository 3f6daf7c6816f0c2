/-
  Package ref and its reference: Target.
-/
import Derived.Test.YtmahemllfghdfaaRefB
namespace Go.Proofs.Ytmahemllfghdfaa
open Go.RowKit Go.Acc
theorem ret_t2 {k k' : IntKind} {a b c d : Int} (h : a = b) (h' : c = d) : Ending.returned (.tuple #[.int k a, .int k' c]) = .returned (.tuple #[.int k b, .int k' d]) := by rw [h, h']
theorem inline_spec_b {w w' : World} (h : Below w.heap.size w w') : Below w.heap.size w w' := h
theorem rinline_spec_b {w w' : World} (h : w = w') : Below w.heap.size w w' := by subst h; exact Below.refl _ _
set_option maxHeartbeats 1000000 in
theorem target_spec (A : Option Addr) (n c : Nat) (p q t v : Int) (l : List UInt8) (w : World) (hl : IsB w A n l) (hc : n ≤ c) (hn : n ≤ 9223372036854775807) :
    Calls Try.prog 7 #[.slice A n c, .agg #[.int .i64 p, .int .i64 q, .int .i64 t, .int .i64 v]] w fun e w' => e = .returned (.tuple #[.int .i64 (tgt l p q t v), .int .i64 (tgtE l p q t v)]) ∧ Below w.heap.size w w' := by
  have hlen := hl.1
  subst hlen
  have HL := Lib.hid (hl.alloc (.cells #[.int .i64 p, .int .i64 q, .int .i64 t, .int .i64 v] 23))
  have HK := Lib.hid (Blk.new w 23 #[.int .i64 p, .int .i64 q, .int .i64 t, .int .i64 v])
  have HB := Lib.hid ((Below.refl w.heap.size w).alloc (Nat.le_refl _) (.cells #[.int .i64 p, .int .i64 q, .int .i64 t, .int .i64 v] 23))
  clear hl
  go_enter Try.func7, Try.ntmps7
  go_wp2_with fail
  go_at_call 14
  refine (may_spec A l.length c p q t v _ hn).mono ?_
  rintro e w1 ⟨rfl, hb⟩
  by_cases hm : mayE l.length p q t v = 0
  · rw [hm]
    have HB := Lib.hid (pure_below HB.out hb); have HK := Lib.hid (HK.out.pure hb); have HL := Lib.hid (HL.out.pure hb); have c0 := cell0 HK.out; have c1 := cell1 HK.out; have c2 := cell2 HK.out; have c3 := cell3 HK.out; clear hb
    go_wp2_with fail
    go_at_call 13
    refine (inline_spec t _).mono ?_
    rintro e w2 ⟨rfl, hb⟩
    have hb := inline_spec_b hb
    clear c0 c1 c2 c3
    cases hi : inlineT t with
    | true =>
      have HE := Lib.hid (tgtE_inl hm hi)
      have HT := Lib.hid (tgt_inl hm hi)
      have HB := Lib.hid (pure_below HB.out hb)
      clear hm hi hb
      go_wp2
      go_ret2
      exact ⟨ret_t2 HT.out.symm HE.out.symm, HB.out⟩
    | false =>
      obtain ⟨h1, h2⟩ := mayE_ok.1 hm
      have h2 := inB_iff.1 h2
      have h1 := formed_iff.1 h1
      have hp0 := h2.1
      have hpn := h2.2.2
      have hq1 : 1 ≤ q := by have := isW_iff.1 h1.2.1; omega
      have HLE := Lib.hid (may_load hm)
      have HB := Lib.hid (pure_below HB.out hb); have HK := Lib.hid (HK.out.pure hb); have HL := Lib.hid (HL.out.pure hb); have c0 := cell0 HK.out; have c1 := cell1 HK.out; have c2 := cell2 HK.out; have c3 := cell3 HK.out; clear hb
      go_wp2_with fail
      go_at_call 15
      refine (load_spec A l.length c p q _ _ HL.out hc hn).mono ?_
      rw [HLE.out]
      rintro e w3 ⟨rfl, hb⟩
      clear c0 c1 c2 c3
      have HB := Lib.hid (pure_below HB.out hb); have HK := Lib.hid (HK.out.pure hb); have HL := Lib.hid (HL.out.pure hb); have c0 := cell0 HK.out; have c1 := cell1 HK.out; have c2 := cell2 HK.out; have c3 := cell3 HK.out; clear hb
      by_cases hu : p < (loadU l p q : Int)
      · have HE := Lib.hid (tgtE_off hm hi hu)
        have HT := Lib.hid (tgt_off hm hi hu)
        generalize loadU l p q = u at hu
        clear hm hi h1 h2
        have hw : IntKind.u64.wrap p = p := u64_in p (by omega)
        go_wp2
        go_ret2
        exact ⟨ret_t2 HT.out.symm HE.out.symm, HB.out⟩
      · have HE := Lib.hid (tgtE_ok hm hi hu)
        have HT := Lib.hid (tgt_ok hm hi hu)
        have HU := Lib.hid (show loadU l p q = loadU l p q from rfl)
        obtain ⟨u, hue⟩ : ∃ u, loadU l p q = u := ⟨_, rfl⟩
        rw [hue] at hu HT ⊢
        clear hm hi h1 h2 hue HU
        have hw : IntKind.u64.wrap p = p := u64_in p (by omega)
        have hw2 : wrap64 (u : Int) = u := wrap64_in _ (by omega)
        have hw3 : wrap64 (p - (u : Int)) = p - u := wrap64_in _ (by omega)
        go_wp2
        go_ret2
        exact ⟨ret_t2 HT.out.symm HE.out.symm, HB.out⟩
  · have HE := Lib.hid (tgtE_may hm)
    have HT := Lib.hid (tgt_may hm)
    have hne : (mayE l.length p q t v != 0) = true := by simpa using hm
    have HB := Lib.hid (pure_below HB.out hb); have HK := Lib.hid (HK.out.pure hb); have HL := Lib.hid (HL.out.pure hb); have c0 := cell0 HK.out; have c1 := cell1 HK.out; have c2 := cell2 HK.out; have c3 := cell3 HK.out; clear hb
    clear hm
    go_wp2
    go_ret2
    exact ⟨ret_t2 HT.out.symm HE.out.symm, HB.out⟩
set_option maxHeartbeats 1000000 in
theorem rtarget_spec (A : Option Addr) (n c : Nat) (p q t v : Int) (l : List UInt8) (w : World) (hl : IsB w A n l) (hn : n ≤ 9223372036854775807) :
    Calls Try.prog 21 #[.slice A n c, .agg #[.int .i64 p, .int .i64 q, .int .i64 t, .int .i64 v]] w fun e w' => e = .returned (.tuple #[.int .i64 (tgt l p q t v), .int .i64 (tgtE l p q t v)]) ∧ Below w.heap.size w w' := by
  have hlen := hl.1
  subst hlen
  have HL := Lib.hid (hl.alloc (.cells #[.int .i64 p, .int .i64 q, .int .i64 t, .int .i64 v] 23))
  have HK := Lib.hid (Blk.new w 23 #[.int .i64 p, .int .i64 q, .int .i64 t, .int .i64 v])
  have HB := Lib.hid ((Below.refl w.heap.size w).alloc (Nat.le_refl _) (.cells #[.int .i64 p, .int .i64 q, .int .i64 t, .int .i64 v] 23))
  clear hl
  go_enter Try.func21, Try.ntmps21
  go_wp2_with fail
  go_at_call 22
  refine (rmay_spec A l.length c p q t v _ hn).mono ?_
  rintro e w1 ⟨rfl, hb⟩
  by_cases hm : mayE l.length p q t v = 0
  · rw [hm]
    have HB := Lib.hid (pure_below HB.out hb); have HK := Lib.hid (HK.out.pure hb); have HL := Lib.hid (HL.out.pure hb); have c0 := cell0 HK.out; have c1 := cell1 HK.out; have c2 := cell2 HK.out; have c3 := cell3 HK.out; clear hb
    go_wp2_with fail
    go_at_call 35
    refine (rinline_spec t _).mono ?_
    rintro e w2 ⟨rfl, hb⟩
    have hb := rinline_spec_b hb
    clear c0 c1 c2 c3
    cases hi : inlineT t with
    | true =>
      have HE := Lib.hid (tgtE_inl hm hi)
      have HT := Lib.hid (tgt_inl hm hi)
      have HB := Lib.hid (pure_below HB.out hb)
      clear hm hi hb
      go_wp2
      go_ret2
      exact ⟨ret_t2 HT.out.symm HE.out.symm, HB.out⟩
    | false =>
      obtain ⟨h1, h2⟩ := mayE_ok.1 hm
      have h2 := inB_iff.1 h2
      have h1 := formed_iff.1 h1
      have hp0 := h2.1
      have hpn := h2.2.2
      have hq1 : 1 ≤ q := by have := isW_iff.1 h1.2.1; omega
      have HLE := Lib.hid (may_load hm)
      have HB := Lib.hid (pure_below HB.out hb); have HK := Lib.hid (HK.out.pure hb); have HL := Lib.hid (HL.out.pure hb); have c0 := cell0 HK.out; have c1 := cell1 HK.out; have c2 := cell2 HK.out; have c3 := cell3 HK.out; clear hb
      go_wp2_with fail
      go_at_call 36
      refine (rload_spec A l.length c p q _ _ HL.out  hn).mono ?_
      rw [HLE.out]
      rintro e w3 ⟨rfl, hb⟩
      clear c0 c1 c2 c3
      have HB := Lib.hid (pure_below HB.out hb); have HK := Lib.hid (HK.out.pure hb); have HL := Lib.hid (HL.out.pure hb); have c0 := cell0 HK.out; have c1 := cell1 HK.out; have c2 := cell2 HK.out; have c3 := cell3 HK.out; clear hb
      by_cases hu : p < (loadU l p q : Int)
      · have HE := Lib.hid (tgtE_off hm hi hu)
        have HT := Lib.hid (tgt_off hm hi hu)
        generalize loadU l p q = u at hu
        clear hm hi h1 h2
        have hw : IntKind.u64.wrap p = p := u64_in p (by omega)
        go_wp2
        go_ret2
        exact ⟨ret_t2 HT.out.symm HE.out.symm, HB.out⟩
      · have HE := Lib.hid (tgtE_ok hm hi hu)
        have HT := Lib.hid (tgt_ok hm hi hu)
        have HU := Lib.hid (show loadU l p q = loadU l p q from rfl)
        obtain ⟨u, hue⟩ : ∃ u, loadU l p q = u := ⟨_, rfl⟩
        rw [hue] at hu HT ⊢
        clear hm hi h1 h2 hue HU
        have hw : IntKind.u64.wrap p = p := u64_in p (by omega)
        have hw2 : wrap64 (u : Int) = u := wrap64_in _ (by omega)
        have hw3 : wrap64 (p - (u : Int)) = p - u := wrap64_in _ (by omega)
        go_wp2
        go_ret2
        exact ⟨ret_t2 HT.out.symm HE.out.symm, HB.out⟩
  · have HE := Lib.hid (tgtE_may hm)
    have HT := Lib.hid (tgt_may hm)
    have hne : (mayE l.length p q t v != 0) = true := by simpa using hm
    have HB := Lib.hid (pure_below HB.out hb); have HK := Lib.hid (HK.out.pure hb); have HL := Lib.hid (HL.out.pure hb); have c0 := cell0 HK.out; have c1 := cell1 HK.out; have c2 := cell2 HK.out; have c3 := cell3 HK.out; clear hb
    clear hm
    go_wp2
    go_ret2
    exact ⟨ret_t2 HT.out.symm HE.out.symm, HB.out⟩
end Go.Proofs.Ytmahemllfghdfaa
