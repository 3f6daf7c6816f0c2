/-
  Package ref: the property RefBack.
-/
import Derived.Test.YtdoagpophikgjaaRefRow
import Derived.Test.YtdoagpophikgjaaCut
import Derived.Test.YtdoagpophikgjaaLeP
namespace Go.Proofs.Ytdoagpophikgjaa
open Go.RowKit Go.Acc
theorem setE_fit {n : Nat} {a x : Int} (h : loadE n a x = 0) (b : Bool) : setE n a x b = if b = true then 0 else 10 := if_pos h
theorem setB_fit {l : List UInt8} {k y u : Nat} (h : loadE l.length k y = 0) : setB l k y u true = l.take k ++ leBytes y u ++ l.drop (k + y) := if_pos ⟨h, rfl⟩
theorem setB_nofit {l : List UInt8} {a x : Int} {u : Nat} : setB l a x u false = [] := if_neg (fun e => by cases e.2)
theorem load_set {l : List UInt8} {p q : Int} {u : Nat} (h : loadE l.length p q = 0) (hf : fitsU q.toNat u = true) (hu : (u : Int) < 18446744073709551616) :
    (setB l p q u true).length = l.length ∧ loadU (setB l p q u true) p q = u := by
  rcases load_cases l p q with ⟨k, y, rfl, rfl, h1, h2, h3, h4, e1, e2⟩ | ⟨e1, _⟩
  · rw [Int.toNat_natCast] at hf
    rw [setB_fit h]
    have hl := mid_len (leBytes_length y u) h2
    have hm := mid_part (leBytes_length y u) h2
    refine ⟨hl, ?_⟩
    unfold loadU
    rw [if_pos ⟨h1, by omega, by rw [hl]; omega⟩]
    show leVal ((_ : List UInt8).drop k |>.take y) = u
    rw [hm, leVal_leBytes_lt (fits_lt hf hu)]
  · exact absurd h e1
set_option maxRecDepth 100000 in
set_option maxHeartbeats 4000000 in
theorem refback_spec (A : Option Addr) (n c : Nat) (p q t v : Int) (u : Nat) (l : List UInt8) (w : World) (h : IsB w A n l) (hc : n ≤ c) (hu : (u : Int) < 18446744073709551616) :
    Calls Try.prog 8 #[.slice A n c, .agg #[.int .i64 p, .int .i64 q, .int .i64 t, .int .i64 v], .int .u64 u] w fun e w' => e = .returned (.bool true) ∧ Below w.heap.size w w' := by
  obtain ⟨M, hMn, hMB, hmin, hcut⟩ := cut_facts A n c 300 300 rfl hc
  have HM := Lib.hid ((h.take bc_len hMn).alloc (.cells #[.int .i64 p, .int .i64 q, .int .i64 t, .int .i64 v] 25))
  have HB := Lib.hid ((Below.refl w.heap.size w).alloc (Nat.le_refl _) (.cells #[.int .i64 p, .int .i64 q, .int .i64 t, .int .i64 v] 25))
  have HX := Lib.hid (Blk.new w 25 #[.int .i64 p, .int .i64 q, .int .i64 t, .int .i64 v])
  have HUU := Shut.mk hu
  clear h hu
  go_enter Try.func8, Try.ntmps8
  go_wp2_with fail
  go_at_call 14
  refine (copyb_spec A M c (l.take M) _ HM.out (by omega)).mono ?_
  rintro e w1 ⟨A1, n1, c1, rfl, hO1, hb1⟩
  obtain rfl : M = n1 := by rw [← hO1.1, HM.out.1]
  have hlen := HM.out.1
  generalize l.take M = l at hO1 hlen
  have HB := Lib.hid (pure_below HB.out hb1)
  have HI := Lib.hid hO1.is
  have HX := Lib.hid (HX.out.pure hb1)
  have hc1 := hO1.cap.1
  have x0 := cell0 HX.out
  have x1 := cell1 HX.out
  have x2 := cell2 HX.out
  have x3 := cell3 HX.out
  clear hO1 hb1 hmin hcut HM
  subst hlen
  go_wp2_with fail
  go_at_call 23
  refine (may_spec A1 _ c1 p q t v _ (by omega)).mono ?_
  rintro e w2 ⟨rfl, hb⟩
  clear x0 x1 x2 x3
  have HB := Lib.hid (pure_below HB.out hb); have HI := Lib.hid (HI.out.pure hb); have HX := Lib.hid (HX.out.pure hb); clear hb; have x0 := cell0 HX.out; have x1 := cell1 HX.out; have x2 := cell2 HX.out; have x3 := cell3 HX.out
  by_cases hm : mayE l.length p q t v = 0
  · rw [hm]
    go_wp2_with fail
    go_at_call 32
    refine (inline_spec t _).mono ?_
    rintro e w3 ⟨rfl, hb⟩
    clear x0 x1 x2 x3
    have HB := Lib.hid (pure_below HB.out hb); have HI := Lib.hid (HI.out.pure hb); have HX := Lib.hid (HX.out.pure hb); clear hb; have x0 := cell0 HX.out; have x1 := cell1 HX.out; have x2 := cell2 HX.out; have x3 := cell3 HX.out
    cases hi : inlineT t with
    | true =>
      have HE := Shut.mk (tgtE_inl hm hi)
      have HT := Shut.mk (tgt_inl hm hi)
      clear hm hi
      go_wp2_with fail
      go_at_call 21
      refine (target_spec A1 l.length c1 p q t v l _ HI.out (by omega) (by omega)).mono ?_
      rw [HT.out, HE.out]
      rintro e w3 ⟨rfl, hb⟩
      clear x0 x1 x2 x3
      have HB := Lib.hid (pure_below HB.out hb); have HI := Lib.hid (HI.out.pure hb); have HX := Lib.hid (HX.out.pure hb); clear hb; have x0 := cell0 HX.out; have x1 := cell1 HX.out; have x2 := cell2 HX.out; have x3 := cell3 HX.out
      go_wp2_with fail
      go_at_call 18
      refine (refworks_spec _).mono ?_
      rintro e w9 ⟨rfl, hb⟩
      have HB := Lib.hid (pure_below HB.out hb)
      clear hb
      go_wp2
      go_ret
      exact ⟨rfl, HB.out⟩
    | false =>
      have HLE := Shut.mk (may_load hm)
      obtain ⟨h1, h2⟩ := mayE_ok.1 hm
      have h2 := inB_iff.1 h2
      have h1 := formed_iff.1 h1
      have hp0 := h2.1
      have hpn := h2.2.2
      have hq1 : 1 ≤ q := by have := isW_iff.1 h1.2.1; omega
      have hw : IntKind.u64.wrap p = p := u64_in p (by omega)
      have hmay : ∀ m : List UInt8, m.length = l.length → mayE m.length p q t v = 0 := fun m e => by rw [e]; exact hm
      obtain ⟨a, ha⟩ : ∃ a, tgt l p q t v = a := ⟨_, rfl⟩
      obtain ⟨f, hf⟩ : ∃ a, tgtE l p q t v = a := ⟨_, rfl⟩
      obtain ⟨u0, hu0⟩ : ∃ a, loadU l p q = a := ⟨_, rfl⟩
      have hcase : (f = 0 ∧ a = p - u0 ∧ (u0 : Int) ≤ p) ∨ (f = 211 ∧ a = 0 ∧ p < (u0 : Int)) := by
        rw [← ha, ← hf, ← hu0]
        by_cases hlt : p < (loadU l p q : Int)
        · exact .inr ⟨tgtE_off hm hi hlt, tgt_off hm hi hlt, hlt⟩
        · exact .inl ⟨tgtE_ok hm hi hlt, tgt_ok hm hi hlt, by omega⟩
      have hset : fitsU q.toNat u = true → ∃ m, setB l p q u true = m ∧ m.length = l.length ∧ ((p < (u : Int) ∧ tgtE m p q t v = 211 ∧ tgt m p q t v = 0) ∨ ((u : Int) ≤ p ∧ tgtE m p q t v = 0 ∧ tgt m p q t v = p - u)) := by
        intro hfit
        obtain ⟨e1, e2⟩ := load_set (may_load hm) hfit HUU.out
        refine ⟨_, rfl, e1, ?_⟩
        have hm' := hmay _ e1
        by_cases hlt : p < (u : Int)
        · exact .inl ⟨hlt, tgtE_off hm' hi (by rw [e2]; exact hlt), tgt_off hm' hi (by rw [e2]; exact hlt)⟩
        · exact .inr ⟨by omega, tgtE_ok hm' hi (by rw [e2]; exact hlt), by rw [tgt_ok hm' hi (by rw [e2]; exact hlt), e2]⟩
      have HA := Shut.mk ha
      have HF := Shut.mk hf
      have HU0 := Shut.mk hu0
      have HS := Shut.mk hset
      clear ha hf hu0 hset hmay hm hi h1 h2
      go_wp2_with fail
      go_at_call 33
      refine (load_spec A1 _ c1 p q l _ HI.out hc1 (by omega)).mono ?_
      rw [HLE.out, HU0.out]
      rintro e w4 ⟨rfl, hb⟩
      clear x0 x1 x2 x3
      have HB := Lib.hid (pure_below HB.out hb); have HI := Lib.hid (HI.out.pure hb); have HX := Lib.hid (HX.out.pure hb); clear hb; have x0 := cell0 HX.out; have x1 := cell1 HX.out; have x2 := cell2 HX.out; have x3 := cell3 HX.out
      go_wp2_with fail
      go_at_call 21
      refine (target_spec A1 l.length c1 p q t v l _ HI.out (by omega) (by omega)).mono ?_
      rw [HA.out, HF.out]
      rintro e w3 ⟨rfl, hb⟩
      clear x0 x1 x2 x3
      have HB := Lib.hid (pure_below HB.out hb); have HI := Lib.hid (HI.out.pure hb); have HX := Lib.hid (HX.out.pure hb); clear hb; have x0 := cell0 HX.out; have x1 := cell1 HX.out; have x2 := cell2 HX.out; have x3 := cell3 HX.out
      rcases hcase with ⟨rfl, haa, hle⟩ | ⟨rfl, rfl, hlt⟩
      · have haa2 : p - a = u0 := by omega
        have ha0 : 0 ≤ a := by omega
        have hap : a ≤ p := by omega
        have HAA := Shut.mk haa
        clear haa
        go_wp2_with fail
        go_at_call 34
        refine (set_spec A1 _ c1 u p q l _ HI.out (by omega) HUU.out).mono ?_
        rw [setE_fit HLE.out]
        cases hfit : fitsU q.toNat u with
        | false =>
          rw [setB_nofit]
          rintro e w5 ⟨AX, nX, cX, rfl, hOX, hb⟩
          clear x0 x1 x2 x3
          have HB := Lib.hid (pure_below HB.out hb); have HI := Lib.hid (HI.out.pure hb); have HX := Lib.hid (HX.out.pure hb); clear hb; have x0 := cell0 HX.out; have x1 := cell1 HX.out; have x2 := cell2 HX.out; have x3 := cell3 HX.out
          clear hOX hfit
          go_wp2_with fail
          go_at_call 18
          refine (refworks_spec _).mono ?_
          rintro e w9 ⟨rfl, hb⟩
          have HB := Lib.hid (pure_below HB.out hb)
          clear hb
          go_wp2
          go_ret
          exact ⟨rfl, HB.out⟩
        | true =>
          obtain ⟨m, hme, hml, hmt⟩ := HS.out hfit
          rw [hme]
          rintro e w5 ⟨AX, nX, cX, rfl, hOX, hb⟩
          obtain rfl : l.length = nX := hml.symm.trans hOX.1
          clear x0 x1 x2 x3
          have HB := Lib.hid (pure_below HB.out hb); have HI := Lib.hid (HI.out.pure hb); have HX := Lib.hid (HX.out.pure hb); clear hb; have x0 := cell0 HX.out; have x1 := cell1 HX.out; have x2 := cell2 HX.out; have x3 := cell3 HX.out
          have HI := Lib.hid hOX.is
          have hcX := hOX.cap.1
          clear hOX hfit hme hml
          rcases hmt with ⟨hlt2, he2, ht2⟩ | ⟨hle2, he2, ht2⟩
          · have HT := Shut.mk ht2
            have HE := Shut.mk he2
            clear he2 ht2
            go_wp2_with fail
            go_at_call 21
            refine (target_spec AX l.length cX p q t v m _ HI.out (by omega) (by omega)).mono ?_
            rw [HT.out, HE.out]
            rintro e w3 ⟨rfl, hb⟩
            clear x0 x1 x2 x3
            have HB := Lib.hid (pure_below HB.out hb); have HI := Lib.hid (HI.out.pure hb); have HX := Lib.hid (HX.out.pure hb); clear hb; have x0 := cell0 HX.out; have x1 := cell1 HX.out; have x2 := cell2 HX.out; have x3 := cell3 HX.out
            have hd : decide (p < (u : Int)) = true := by simpa using hlt2
            go_wp2_with fail
            go_at_call 18
            refine (refworks_spec _).mono ?_
            rintro e w9 ⟨rfl, hb⟩
            have HB := Lib.hid (pure_below HB.out hb)
            clear hb
            go_wp2
            go_ret
            exact ⟨rfl, HB.out⟩
          · have HT := Shut.mk ht2
            have HE := Shut.mk he2
            clear he2 ht2
            have hd : decide (p < (u : Int)) = false := decide_eq_false (by omega)
            go_wp2_with fail
            go_at_call 21
            refine (target_spec AX l.length cX p q t v m _ HI.out (by omega) (by omega)).mono ?_
            rw [HT.out, HE.out]
            rintro e w3 ⟨rfl, hb⟩
            clear x0 x1 x2 x3
            have HB := Lib.hid (pure_below HB.out hb); have HI := Lib.hid (HI.out.pure hb); have HX := Lib.hid (HX.out.pure hb); clear hb; have x0 := cell0 HX.out; have x1 := cell1 HX.out; have x2 := cell2 HX.out; have x3 := cell3 HX.out
            obtain ⟨b, hb2⟩ : ∃ b, b = p - (u : Int) := ⟨_, rfl⟩
            rw [← hb2]
            have hb3 : p - b = u := by omega
            have hb4 : 0 ≤ b := by omega
            have hb5 : b ≤ p := by omega
            clear hb2
            go_wp2_with fail
            all_goals first
              | (exfalso; omega)
              | (go_at_call 18
                 refine (refworks_spec _).mono ?_
                 rintro e w9 ⟨rfl, hb⟩
                 have HB := Lib.hid (pure_below HB.out hb)
                 clear hb
                 go_wp2
                 go_ret
                 exact ⟨rfl, HB.out⟩)
      · go_wp2_with fail
        go_at_call 34
        refine (set_spec A1 _ c1 u p q l _ HI.out (by omega) HUU.out).mono ?_
        rw [setE_fit HLE.out]
        cases hfit : fitsU q.toNat u with
        | false =>
          rw [setB_nofit]
          rintro e w5 ⟨AX, nX, cX, rfl, hOX, hb⟩
          clear x0 x1 x2 x3
          have HB := Lib.hid (pure_below HB.out hb); have HI := Lib.hid (HI.out.pure hb); have HX := Lib.hid (HX.out.pure hb); clear hb; have x0 := cell0 HX.out; have x1 := cell1 HX.out; have x2 := cell2 HX.out; have x3 := cell3 HX.out
          clear hOX hfit
          go_wp2_with fail
          go_at_call 18
          refine (refworks_spec _).mono ?_
          rintro e w9 ⟨rfl, hb⟩
          have HB := Lib.hid (pure_below HB.out hb)
          clear hb
          go_wp2
          go_ret
          exact ⟨rfl, HB.out⟩
        | true =>
          obtain ⟨m, hme, hml, hmt⟩ := HS.out hfit
          rw [hme]
          rintro e w5 ⟨AX, nX, cX, rfl, hOX, hb⟩
          obtain rfl : l.length = nX := hml.symm.trans hOX.1
          clear x0 x1 x2 x3
          have HB := Lib.hid (pure_below HB.out hb); have HI := Lib.hid (HI.out.pure hb); have HX := Lib.hid (HX.out.pure hb); clear hb; have x0 := cell0 HX.out; have x1 := cell1 HX.out; have x2 := cell2 HX.out; have x3 := cell3 HX.out
          have HI := Lib.hid hOX.is
          have hcX := hOX.cap.1
          clear hOX hfit hme hml
          rcases hmt with ⟨hlt2, he2, ht2⟩ | ⟨hle2, he2, ht2⟩
          · have HT := Shut.mk ht2
            have HE := Shut.mk he2
            clear he2 ht2
            go_wp2_with fail
            go_at_call 21
            refine (target_spec AX l.length cX p q t v m _ HI.out (by omega) (by omega)).mono ?_
            rw [HT.out, HE.out]
            rintro e w3 ⟨rfl, hb⟩
            clear x0 x1 x2 x3
            have HB := Lib.hid (pure_below HB.out hb); have HI := Lib.hid (HI.out.pure hb); have HX := Lib.hid (HX.out.pure hb); clear hb; have x0 := cell0 HX.out; have x1 := cell1 HX.out; have x2 := cell2 HX.out; have x3 := cell3 HX.out
            have hd : decide (p < (u : Int)) = true := by simpa using hlt2
            go_wp2_with fail
            go_at_call 18
            refine (refworks_spec _).mono ?_
            rintro e w9 ⟨rfl, hb⟩
            have HB := Lib.hid (pure_below HB.out hb)
            clear hb
            go_wp2
            go_ret
            exact ⟨rfl, HB.out⟩
          · have HT := Shut.mk ht2
            have HE := Shut.mk he2
            clear he2 ht2
            have hd : decide (p < (u : Int)) = false := decide_eq_false (by omega)
            go_wp2_with fail
            go_at_call 21
            refine (target_spec AX l.length cX p q t v m _ HI.out (by omega) (by omega)).mono ?_
            rw [HT.out, HE.out]
            rintro e w3 ⟨rfl, hb⟩
            clear x0 x1 x2 x3
            have HB := Lib.hid (pure_below HB.out hb); have HI := Lib.hid (HI.out.pure hb); have HX := Lib.hid (HX.out.pure hb); clear hb; have x0 := cell0 HX.out; have x1 := cell1 HX.out; have x2 := cell2 HX.out; have x3 := cell3 HX.out
            obtain ⟨b, hb2⟩ : ∃ b, b = p - (u : Int) := ⟨_, rfl⟩
            rw [← hb2]
            have hb3 : p - b = u := by omega
            have hb4 : 0 ≤ b := by omega
            have hb5 : b ≤ p := by omega
            clear hb2
            go_wp2_with fail
            all_goals first
              | (exfalso; omega)
              | (go_at_call 18
                 refine (refworks_spec _).mono ?_
                 rintro e w9 ⟨rfl, hb⟩
                 have HB := Lib.hid (pure_below HB.out hb)
                 clear hb
                 go_wp2
                 go_ret
                 exact ⟨rfl, HB.out⟩)
  · have HE := Shut.mk (tgtE_may hm)
    have HT := Shut.mk (tgt_may hm)
    have hne : (mayE l.length p q t v != 0) = true := by simpa using hm
    clear hm
    go_wp2_with fail
    go_at_call 21
    refine (target_spec A1 l.length c1 p q t v l _ HI.out (by omega) (by omega)).mono ?_
    rw [HT.out, HE.out]
    rintro e w3 ⟨rfl, hb⟩
    clear x0 x1 x2 x3
    have HB := Lib.hid (pure_below HB.out hb); have HI := Lib.hid (HI.out.pure hb); have HX := Lib.hid (HX.out.pure hb); clear hb; have x0 := cell0 HX.out; have x1 := cell1 HX.out; have x2 := cell2 HX.out; have x3 := cell3 HX.out
    go_wp2_with fail
    go_at_call 18
    refine (refworks_spec _).mono ?_
    rintro e w9 ⟨rfl, hb⟩
    have HB := Lib.hid (pure_below HB.out hb)
    clear hb
    go_wp2
    go_ret
    exact ⟨rfl, HB.out⟩

open Go.ChangeShapes Go.WideShapes Go.ChangeAt
theorem refBack_run {H : Type} {enc : TypeId × Value → H} {v0 v1 v2 : Value} {d0 d1 d2 : DataW H} {p0 p1 p2 : List MemPlace} (W : World) (base : Nat) (k0 : Value.okWide Try.prog W .any base 22 v0) (k1 : Value.okWide Try.prog W .any base 25 v1) (k2 : Value.okWide Try.prog W .any base 49 v2)
    (h0 : DataW.Trod enc Try.prog W 0 (fun _ => true) true 22 v0 d0 p0) (h1 : DataW.Trod enc Try.prog W 0 (fun _ => true) true 25 v1 d1 p1) (h2 : DataW.Trod enc Try.prog W 0 (fun _ => true) true 49 v2 d2 p2) :
    Calls Try.prog 8 #[v0, v1, v2] W fun e w' => e = .returned (.bool true) ∧ Below W.heap.size W w' := by
  obtain ⟨A, n, c, l, rfl, hI, hc, _⟩ := bytes_arg k0 h0
  obtain ⟨p, q, t, v, rfl, _⟩ := ref_arg k1 h1
  obtain ⟨u, rfl, hu⟩ := u64_arg k2 h2
  exact refback_spec A n c p q t v u l W hI hc hu

set_option maxRecDepth 100000 in
theorem refBack_lifted (os : Os) (started : os.Started) (H : Type) (enc : TypeId × Value → H) :
    ReturnsInHanded {} Try.checked os 8 .any (Rows.refBackSpec.pre6 enc Try.prog Try.f8 Rows.refBackRow.domain false) (Rows.refBackSpec.post enc Try.prog Try.f8 false true false false) := by
  refine returnsInHanded_of_change (C := Try.checked) acc_own started (by kernel_rfl) Try.func8
    (ChangeSpec.witness6 (enc := enc) (C := Try.checked) false ⟨#[], #[.slice none 0 0, .agg #[.int .i64 0, .int .i64 0, .int .i64 0, .int .i64 0], .int .u64 0], []⟩ 8 (by kernel_rfl) (by kernel_rfl) (by kernel_rfl) (by kernel_rfl)) ?_
  intro W base args ds gs before hval0 hW hcnd _
  have hval : ∀ (j : Nat) t v, Try.f8.params[j]? = some t → args[j]? = some v → Value.okWide Try.prog W .any base t v := hval0
  have hW' := hW
  obtain ⟨p, q, hA0, hV, rfl, hfz, hnd⟩ := hW
  have hA : DataW.TrodAll enc Try.prog W 0 (fun _ => true) true Try.f8.params.toList args.toList ds p := hA0
  rw [Try.params8] at hA
  rw [Try.params8] at hval
  obtain ⟨v0, vs0, d0, ds0, p0, q0, hargs, rfl, rfl, h0, r0⟩ := trodAll_cons hA
  obtain ⟨v1, vs1, d1, ds1, p1, q1, rfl, rfl, rfl, h1, r1⟩ := trodAll_cons r0
  obtain ⟨v2, vs2, d2, ds2, p2, q2, rfl, rfl, rfl, h2, r2⟩ := trodAll_cons r1
  obtain ⟨rfl, rfl, rfl⟩ := trodAll_nil r2
  obtain rfl : args = #[v0, v1, v2] := by cases args; simp_all
  obtain ⟨rfl, rfl⟩ := trodVars_none hV
  have k0 := hval 0 22 v0 rfl rfl
  have k1 := hval 1 25 v1 rfl rfl
  have k2 := hval 2 49 v2 rfl rfl
  clear hA0 hval0
  refine (refBack_run (enc := enc) W base k0 k1 k2 h0 h1 h2).mono fun e W' ⟨he, bel⟩ => ?_
  subst he
  exact ⟨_, rfl, _, _, _, [], _, [], hW', trodAll_mk1 (shut_bool Try.underlying4 _), (trodAll_cons_mk (below_arg acc_laidOut (by kernel_rfl) (of_decide_eq_true (by kernel_rfl)) h0 bel) (trodAll_cons_mk (below_arg acc_laidOut (by kernel_rfl) (of_decide_eq_true (by kernel_rfl)) h1 bel) (trodAll_cons_mk (below_arg acc_laidOut (by kernel_rfl) (of_decide_eq_true (by kernel_rfl)) h2 bel) trodAll_mk0))), rfl, bel.frame _, fun h => by cases h⟩

theorem refBack_holds : Rows.RefBackSaid :=
  OpenClaim.holds_of_wide 8 Try.f8 rfl rfl rfl rfl rfl rfl rfl ⟨rfl, rfl, rfl, rfl, rfl⟩ rfl rfl rfl rfl rfl (by kernel_rfl) Try.func8 (by kernel_rfl)
    (of_decide_eq_true (by kernel_rfl)) (by unfold Func.isWrapper; rw [if_neg (of_decide_eq_false (by kernel_rfl))]; exact ⟨rfl, rfl⟩)
    (fun os started H enc _ => refBack_lifted os started H enc)
#print axioms refBack_holds
end Go.Proofs.Ytdoagpophikgjaa
