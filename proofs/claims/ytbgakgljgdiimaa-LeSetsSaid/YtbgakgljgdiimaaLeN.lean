/-
  Package le: the property LeSets.
-/
import Derived.Test.YtbgakgljgdiimaaLeRow
import Derived.Test.YtbgakgljgdiimaaLeP
namespace Go.Proofs.Ytbgakgljgdiimaa
open Go.RowKit Go.Acc
theorem setE_no {n : Nat} {a x : Int} {b : Bool} (h : loadE n a x ≠ 0) : setE n a x b = loadE n a x := if_neg h
theorem setB_no {l : List UInt8} {a x : Int} {u : Nat} {b : Bool} (h : loadE l.length a x ≠ 0) : setB l a x u b = [] := if_neg (fun e => h e.1)
theorem setE_ok {n : Nat} {a x : Int} {b : Bool} (h : loadE n a x = 0) : setE n a x b = if b = true then 0 else 10 := if_pos h
theorem setB_ok {l : List UInt8} {k y u : Nat} (h : loadE l.length k y = 0) : setB l k y u true = l.take k ++ leBytes y u ++ l.drop (k + y) := if_pos ⟨h, rfl⟩
theorem setB_false {l : List UInt8} {a x : Int} {u : Nat} : setB l a x u false = [] := if_neg (fun e => by cases e.2)
set_option maxRecDepth 100000 in
set_option maxHeartbeats 1000000 in
theorem lesets_spec (A : Option Addr) (n c u : Nat) (a x : Int) (l : List UInt8) (w : World) (h : IsB w A n l) (hc : n ≤ c) (hu : (u : Int) < 18446744073709551616) :
    Calls Try.prog 7 #[.slice A n c, .agg #[.int .i64 a, .int .i64 x, .int .u64 u]] w fun e w' => e = .returned (.bool true) ∧ Below w.heap.size w w' := by
  have HR := Lib.hid h
  have HUU := Shut.mk hu
  clear h hu
  by_cases h300 : n ≤ 300
  · have HM := Lib.hid (HR.out.take bc_len (k := n) (by omega))
    clear HR
    have hlen := HM.out.1
    rcases load_cases (l.take (n)) a x with ⟨k, y, rfl, rfl, h1, h2, h3, h4, e1, e2⟩ | ⟨e1, e2, e3⟩
    · cases hf : fitsU y u with
      | false =>
        have HF := Shut.mk hf
        have ES := Shut.mk (show setE (n) k y false = 10 from (setE_ok (by rw [hlen] at e1; exact e1)).trans (if_neg (by decide)))
        rw [hlen] at e1 h2
        have E1 := Shut.mk e1
        have E2 := Shut.mk e2
        clear hf e1 e2 h1 hlen
        go_enter Try.func7, Try.ntmps7
        go_wp2_with fail
        have HM := Lib.hid (HM.out.alloc (.cells #[.int .i64 k, .int .i64 y, .int .u64 (u : Int)] 34))
        have HK := Lib.hid (Blk.new w 34 #[.int .i64 k, .int .i64 y, .int .u64 (u : Int)])
        have H0 := Lib.hid ((Below.refl w.heap.size w).alloc (Nat.le_refl _) (.cells #[.int .i64 k, .int .i64 y, .int .u64 (u : Int)] 34))
        go_at_call 10
        refine (copyb_spec A (n) c (l.take (n)) _ HM.out (by omega)).mono ?_
        rintro e w1 ⟨A1, n1, c1, rfl, hO1, hb1⟩
        obtain rfl : n = n1 := by rw [← hO1.1, HM.out.1]
        have H0 := Lib.hid (pure_trans H0.out hb1)
        have HB := Lib.hid (Below.refl w1.heap.size w1)
        have HI := Lib.hid hO1.is
        have hc1 := hO1.cap.1
        have V0 := Lib.hid (((HK.out.pure hb1).cell 0).trans (show _ = some (Value.int .i64 k) from rfl))
        have V1 := Lib.hid (((HK.out.pure hb1).cell 1).trans (show _ = some (Value.int .i64 y) from rfl))
        have V2 := Lib.hid (((HK.out.pure hb1).cell 2).trans (show _ = some (Value.int .u64 (u : Int)) from rfl))
        have v0 := V0.out
        have v1 := V1.out
        have v2 := V2.out
        clear hO1 hb1
        go_wp2_with fail
        go_at_call 11
        refine (load_spec A1 (n) c1 k y _ _ HI.out hc1 (by omega)).mono ?_
        rw [E1.out, E2.out]
        rintro e w2 ⟨rfl, hb⟩
        clear v0 v1 v2
        have HB := Lib.hid (pure_below HB.out hb); have v0 := cell_pure HB.out V0.out; have v1 := cell_pure HB.out V1.out; have v2 := cell_pure HB.out V2.out
        clear hb
        go_wp2_with fail
        go_at_call 21
        refine (set_spec A1 (n) c1 u k y (l.take (n)) _ (HI.out.pure HB.out) (by omega) HUU.out).mono ?_
        rw [Int.toNat_natCast, HF.out, setB_false, ES.out]
        rintro e w3 ⟨AX, nX, cX, rfl, hOX, hb⟩
        obtain rfl : 0 = nX := hOX.1
        clear v0 v1 v2
        have HB := Lib.hid (pure_below HB.out hb); have v0 := cell_pure HB.out V0.out; have v1 := cell_pure HB.out V1.out; have v2 := cell_pure HB.out V2.out
        clear hb hOX
        go_wp2_with fail
        go_at_call 16
        refine (works_spec _).mono ?_
        rintro e w9 ⟨rfl, hb⟩
        have HB := Lib.hid (pure_below HB.out hb)
        clear hb
        go_wp2
        go_ret
        exact ⟨rfl, pure_trans H0.out HB.out⟩
      | true =>
        have hul := fits_lt hf HUU.out
        have hpl : (((l.take (n)).drop k).take y).length = y := by rw [List.length_take, List.length_drop, hlen]; omega
        have hpl2 := leVal_lt (((l.take (n)).drop k).take y)
        have hub := leBytes_leVal (((l.take (n)).drop k).take y)
        rw [hpl] at hpl2 hub
        have EB := setB_ok (u := u) e1
        have hm1 := mid_len (leBytes_length y u) h2
        have hm2 := mid_part (leBytes_length y u) h2
        have hm3 := mid_back (leBytes_length y u) h2
        have hm4 := fun i => mid_get (i := i) (leBytes_length y u) h2
        rw [← EB] at hm1 hm2 hm3 hm4
        generalize hEB : setB (l.take (n)) k y u true = m at EB hm1 hm2 hm3 hm4
        have hm5 : loadU m k y = u := by
          unfold loadU
          rw [if_pos ⟨h1, by omega, by rw [hm1]; omega⟩]
          show leVal ((m.drop k).take y) = u
          rw [hm2, leVal_leBytes_lt hul]
        rw [← hm1] at e1
        have hm6 : setB m k y (loadU (l.take (n)) k y) true = l.take (n) := by
          rw [setB_ok e1, e2, hub]
          exact hm3
        rw [hlen] at h2 hm1
        rw [hm1] at e1
        have HF := Shut.mk hf
        have HF2 := Shut.mk (show fitsU y (loadU (l.take (n)) k y) = true by rw [e2]; exact fitsU_of hpl2)
        have HU2 := Shut.mk (show ((loadU (l.take (n)) k y : Nat) : Int) < 18446744073709551616 by rw [e2]; exact u_small h1 hpl2)
        have ES := Shut.mk (show setE (n) k y true = 0 from (setE_ok e1).trans (if_pos rfl))
        have E1 := Shut.mk e1
        have HM1 := Shut.mk hm1
        have HM4 := Shut.mk hm4
        have HM5 := Shut.mk hm5
        have HM6 := Shut.mk hm6
        have EBS := Shut.mk hEB
        have ew : IntKind.i64.wrap ((k : Int) + y) = ((k + y : Nat) : Int) := by rw [IntWalk.i64_in _ (by omega)]; omega
        clear hf e1 e2 h1 hlen hul hpl hpl2 hub hm1 hm2 hm3 hm4 hm5 hm6 EB hEB
        go_enter Try.func7, Try.ntmps7
        go_wp2_with fail
        have HM := Lib.hid (HM.out.alloc (.cells #[.int .i64 k, .int .i64 y, .int .u64 (u : Int)] 34))
        have HK := Lib.hid (Blk.new w 34 #[.int .i64 k, .int .i64 y, .int .u64 (u : Int)])
        have H0 := Lib.hid ((Below.refl w.heap.size w).alloc (Nat.le_refl _) (.cells #[.int .i64 k, .int .i64 y, .int .u64 (u : Int)] 34))
        go_at_call 10
        refine (copyb_spec A (n) c (l.take (n)) _ HM.out (by omega)).mono ?_
        rintro e w1 ⟨A1, n1, c1, rfl, hO1, hb1⟩
        obtain rfl : n = n1 := by rw [← hO1.1, HM.out.1]
        have H0 := Lib.hid (pure_trans H0.out hb1)
        have HB := Lib.hid (Below.refl w1.heap.size w1)
        have HI := Lib.hid hO1.is
        have hc1 := hO1.cap.1
        have V0 := Lib.hid (((HK.out.pure hb1).cell 0).trans (show _ = some (Value.int .i64 k) from rfl))
        have V1 := Lib.hid (((HK.out.pure hb1).cell 1).trans (show _ = some (Value.int .i64 y) from rfl))
        have V2 := Lib.hid (((HK.out.pure hb1).cell 2).trans (show _ = some (Value.int .u64 (u : Int)) from rfl))
        have v0 := V0.out
        have v1 := V1.out
        have v2 := V2.out
        clear hO1 hb1
        go_wp2_with fail
        go_at_call 11
        refine (load_spec A1 (n) c1 k y _ _ HI.out hc1 (by omega)).mono ?_
        rw [E1.out, (show loadU (l.take (n)) k y = loadU (l.take (n)) k y from rfl)]
        rintro e w2 ⟨rfl, hb⟩
        clear v0 v1 v2
        have HB := Lib.hid (pure_below HB.out hb); have v0 := cell_pure HB.out V0.out; have v1 := cell_pure HB.out V1.out; have v2 := cell_pure HB.out V2.out
        clear hb
        go_wp2_with fail
        go_at_call 21
        refine (set_spec A1 (n) c1 u k y (l.take (n)) _ (HI.out.pure HB.out) (by omega) HUU.out).mono ?_
        rw [Int.toNat_natCast, HF.out, ES.out, EBS.out]
        rintro e w3 ⟨AX, nX, cX, rfl, hOX, hb⟩
        obtain rfl : n = nX := HM1.out.symm.trans hOX.1
        clear v0 v1 v2
        have HB := Lib.hid (pure_below HB.out hb); have v0 := cell_pure HB.out V0.out; have v1 := cell_pure HB.out V1.out; have v2 := cell_pure HB.out V2.out
        have HX := Lib.hid hOX.is
        have hcX := hOX.cap.1
        clear hb hOX
        go_wp2_with fail
        go_at_call 11
        refine (load_spec AX (n) cX k y m _ HX.out hcX (by omega)).mono ?_
        rw [E1.out, HM5.out]
        rintro e w4 ⟨rfl, hb⟩
        clear v0 v1 v2
        have HB := Lib.hid (pure_below HB.out hb); have v0 := cell_pure HB.out V0.out; have v1 := cell_pure HB.out V1.out; have v2 := cell_pure HB.out V2.out
        have HX := Lib.hid (HX.out.pure hb)
        clear hb
        go_wp2_with fail
        go_at_call 21
        refine (set_spec AX (n) cX (loadU (l.take (n)) k y) k y m _ HX.out (by omega) HU2.out).mono ?_
        rw [Int.toNat_natCast, HF2.out, ES.out, HM6.out]
        rintro e w5 ⟨AZ, nZ, cZ, rfl, hOZ, hb⟩
        clear v0 v1 v2
        have HB := Lib.hid (pure_below HB.out hb); have v0 := cell_pure HB.out V0.out; have v1 := cell_pure HB.out V1.out; have v2 := cell_pure HB.out V2.out
        have HX := Lib.hid (HX.out.pure hb)
        have HZ := Lib.hid hOZ.is
        have HI := Lib.hid (HI.out.pure HB.out)
        clear hb hOZ
        go_wp2_with fail
        go_at_call 15
        refine (eqb_spec AZ A1 nZ (n) cZ c1 _ _ _ HZ.out HI.out).mono ?_
        rw [eqB_self]
        rintro e w' ⟨rfl, rfl⟩
        go_wp2
        go_loopw [14] (fun i wr => ∃ j : Nat, j ≤ n ∧ i = .int .i64 j ∧ ∃ nd, wr = w5.drewN nd) (fun i _ => n - (intOf i).toNat)
        case atStart => exact ⟨0, Nat.zero_le _, rfl, 0, rfl⟩
        case round =>
          obtain ⟨j, hj, rfl, nd, rfl⟩ := hrel
          by_cases hlt : j < n
          · obtain ⟨b1, o1, rfl, hk1, a1⟩ := isb_at HX.out hlt
            obtain ⟨b2, o2, rfl, hk2, a2⟩ := isb_at HI.out hlt
            by_cases hjk : j < k
            · have e : (l.take (n))[j] = m[j] := by have := HM4.out j (.inl hjk); rw [List.getElem?_eq_getElem hk1, List.getElem?_eq_getElem hk2] at this; exact (Option.some.inj this).symm
              rw [e] at a2
              go_wp2
              go_quiet (fail)
              go_wp2
              go_roundw
              case rel => exact ⟨j + 1, by omega, by go_num, _, rfl⟩
              case measure => simp [intOf]; omega
            · by_cases hjy : k + y ≤ j
              · have e : (l.take (n))[j] = m[j] := by have := HM4.out j (.inr hjy); rw [List.getElem?_eq_getElem hk1, List.getElem?_eq_getElem hk2] at this; exact (Option.some.inj this).symm
                rw [e] at a2
                have d1 : ¬ (j : Int) < k := by omega
                have d2 : (k : Int) + y ≤ j := by omega
                go_wp2
                go_quiet (fail)
                go_wp2
                go_roundw
                case rel => exact ⟨j + 1, by omega, by go_num, _, rfl⟩
                case measure => simp [intOf]; omega
              · have d1 : ¬ (j : Int) < k := by omega
                have d2 : decide ((k : Int) + y ≤ j) = false := decide_eq_false (by omega)
                go_wp2
                go_quiet (fail)
                go_wp2
                go_roundw
                case rel => exact ⟨j + 1, by omega, by go_num, _, rfl⟩
                case measure => simp [intOf]; omega
          · obtain rfl : j = n := by omega
            have HB := Lib.hid (below_drewN HB.out nd)
            go_wp2_with fail
            go_at_call 16
            refine (works_spec _).mono ?_
            rintro e w9 ⟨rfl, hb⟩
            have HB := Lib.hid (pure_below HB.out hb)
            clear hb
            go_wp2
            go_ret
            exact ⟨rfl, pure_trans H0.out HB.out⟩
    · rw [hlen] at e1 e3
      have e0 : (loadE (n) a x != 0) = true := by simpa using e1
      have E1 := Shut.mk e1
      have E2 := Shut.mk e2
      have ES := Shut.mk (setE_no (b := fitsU x.toNat u) e1)
      have EB := Shut.mk (setB_no (b := fitsU x.toNat u) (u := u) (l := l.take (n)) (a := a) (x := x) (by rw [hlen]; exact e1))
      have e4 : (loadE (n) a x == loadE (n) a x) = true := by simp
      clear e1 e2 e3 hlen
      go_enter Try.func7, Try.ntmps7
      go_wp2_with fail
      have HM := Lib.hid (HM.out.alloc (.cells #[.int .i64 a, .int .i64 x, .int .u64 (u : Int)] 34))
      have HK := Lib.hid (Blk.new w 34 #[.int .i64 a, .int .i64 x, .int .u64 (u : Int)])
      have H0 := Lib.hid ((Below.refl w.heap.size w).alloc (Nat.le_refl _) (.cells #[.int .i64 a, .int .i64 x, .int .u64 (u : Int)] 34))
      go_at_call 10
      refine (copyb_spec A (n) c (l.take (n)) _ HM.out (by omega)).mono ?_
      rintro e w1 ⟨A1, n1, c1, rfl, hO1, hb1⟩
      obtain rfl : n = n1 := by rw [← hO1.1, HM.out.1]
      have H0 := Lib.hid (pure_trans H0.out hb1)
      have HB := Lib.hid (Below.refl w1.heap.size w1)
      have HI := Lib.hid hO1.is
      have hc1 := hO1.cap.1
      have V0 := Lib.hid (((HK.out.pure hb1).cell 0).trans (show _ = some (Value.int .i64 a) from rfl))
      have V1 := Lib.hid (((HK.out.pure hb1).cell 1).trans (show _ = some (Value.int .i64 x) from rfl))
      have V2 := Lib.hid (((HK.out.pure hb1).cell 2).trans (show _ = some (Value.int .u64 (u : Int)) from rfl))
      have v0 := V0.out
      have v1 := V1.out
      have v2 := V2.out
      clear hO1 hb1
      go_wp2_with fail
      go_at_call 11
      refine (load_spec A1 (n) c1 a x _ _ HI.out hc1 (by omega)).mono ?_
      rw [show loadE (n) a x = loadE (n) a x from rfl, E2.out]
      rintro e w2 ⟨rfl, hb⟩
      clear v0 v1 v2
      have HB := Lib.hid (pure_below HB.out hb); have v0 := cell_pure HB.out V0.out; have v1 := cell_pure HB.out V1.out; have v2 := cell_pure HB.out V2.out
      clear hb
      go_wp2_with fail
      go_at_call 21
      refine (set_spec A1 (n) c1 u a x (l.take (n)) _ (HI.out.pure HB.out) (by omega) HUU.out).mono ?_
      rw [ES.out, EB.out]
      rintro e w3 ⟨AX, nX, cX, rfl, hOX, hb⟩
      obtain rfl : 0 = nX := hOX.1
      clear v0 v1 v2
      have HB := Lib.hid (pure_below HB.out hb); have v0 := cell_pure HB.out V0.out; have v1 := cell_pure HB.out V1.out; have v2 := cell_pure HB.out V2.out
      clear hb hOX
      go_wp2_with fail
      go_at_call 16
      refine (works_spec _).mono ?_
      rintro e w9 ⟨rfl, hb⟩
      have HB := Lib.hid (pure_below HB.out hb)
      clear hb
      go_wp2
      go_ret
      exact ⟨rfl, pure_trans H0.out HB.out⟩
  · have h3 : 300 < n := by omega
    clear h300
    have HM := Lib.hid (HR.out.take bc_len (k := 300) (by omega))
    clear HR
    have hlen := HM.out.1
    rcases load_cases (l.take (300)) a x with ⟨k, y, rfl, rfl, h1, h2, h3, h4, e1, e2⟩ | ⟨e1, e2, e3⟩
    · cases hf : fitsU y u with
      | false =>
        have HF := Shut.mk hf
        have ES := Shut.mk (show setE (300) k y false = 10 from (setE_ok (by rw [hlen] at e1; exact e1)).trans (if_neg (by decide)))
        rw [hlen] at e1 h2
        have E1 := Shut.mk e1
        have E2 := Shut.mk e2
        clear hf e1 e2 h1 hlen
        go_enter Try.func7, Try.ntmps7
        go_wp2_with fail
        have HM := Lib.hid (HM.out.alloc (.cells #[.int .i64 k, .int .i64 y, .int .u64 (u : Int)] 34))
        have HK := Lib.hid (Blk.new w 34 #[.int .i64 k, .int .i64 y, .int .u64 (u : Int)])
        have H0 := Lib.hid ((Below.refl w.heap.size w).alloc (Nat.le_refl _) (.cells #[.int .i64 k, .int .i64 y, .int .u64 (u : Int)] 34))
        go_at_call 10
        refine (copyb_spec A (300) c (l.take (300)) _ HM.out (by omega)).mono ?_
        rintro e w1 ⟨A1, n1, c1, rfl, hO1, hb1⟩
        obtain rfl : 300 = n1 := by rw [← hO1.1, HM.out.1]
        have H0 := Lib.hid (pure_trans H0.out hb1)
        have HB := Lib.hid (Below.refl w1.heap.size w1)
        have HI := Lib.hid hO1.is
        have hc1 := hO1.cap.1
        have V0 := Lib.hid (((HK.out.pure hb1).cell 0).trans (show _ = some (Value.int .i64 k) from rfl))
        have V1 := Lib.hid (((HK.out.pure hb1).cell 1).trans (show _ = some (Value.int .i64 y) from rfl))
        have V2 := Lib.hid (((HK.out.pure hb1).cell 2).trans (show _ = some (Value.int .u64 (u : Int)) from rfl))
        have v0 := V0.out
        have v1 := V1.out
        have v2 := V2.out
        clear hO1 hb1
        go_wp2_with fail
        go_at_call 11
        refine (load_spec A1 (300) c1 k y _ _ HI.out hc1 (by omega)).mono ?_
        rw [E1.out, E2.out]
        rintro e w2 ⟨rfl, hb⟩
        clear v0 v1 v2
        have HB := Lib.hid (pure_below HB.out hb); have v0 := cell_pure HB.out V0.out; have v1 := cell_pure HB.out V1.out; have v2 := cell_pure HB.out V2.out
        clear hb
        go_wp2_with fail
        go_at_call 21
        refine (set_spec A1 (300) c1 u k y (l.take (300)) _ (HI.out.pure HB.out) (by omega) HUU.out).mono ?_
        rw [Int.toNat_natCast, HF.out, setB_false, ES.out]
        rintro e w3 ⟨AX, nX, cX, rfl, hOX, hb⟩
        obtain rfl : 0 = nX := hOX.1
        clear v0 v1 v2
        have HB := Lib.hid (pure_below HB.out hb); have v0 := cell_pure HB.out V0.out; have v1 := cell_pure HB.out V1.out; have v2 := cell_pure HB.out V2.out
        clear hb hOX
        go_wp2_with fail
        go_at_call 16
        refine (works_spec _).mono ?_
        rintro e w9 ⟨rfl, hb⟩
        have HB := Lib.hid (pure_below HB.out hb)
        clear hb
        go_wp2
        go_ret
        exact ⟨rfl, pure_trans H0.out HB.out⟩
      | true =>
        have hul := fits_lt hf HUU.out
        have hpl : (((l.take (300)).drop k).take y).length = y := by rw [List.length_take, List.length_drop, hlen]; omega
        have hpl2 := leVal_lt (((l.take (300)).drop k).take y)
        have hub := leBytes_leVal (((l.take (300)).drop k).take y)
        rw [hpl] at hpl2 hub
        have EB := setB_ok (u := u) e1
        have hm1 := mid_len (leBytes_length y u) h2
        have hm2 := mid_part (leBytes_length y u) h2
        have hm3 := mid_back (leBytes_length y u) h2
        have hm4 := fun i => mid_get (i := i) (leBytes_length y u) h2
        rw [← EB] at hm1 hm2 hm3 hm4
        generalize hEB : setB (l.take (300)) k y u true = m at EB hm1 hm2 hm3 hm4
        have hm5 : loadU m k y = u := by
          unfold loadU
          rw [if_pos ⟨h1, by omega, by rw [hm1]; omega⟩]
          show leVal ((m.drop k).take y) = u
          rw [hm2, leVal_leBytes_lt hul]
        rw [← hm1] at e1
        have hm6 : setB m k y (loadU (l.take (300)) k y) true = l.take (300) := by
          rw [setB_ok e1, e2, hub]
          exact hm3
        rw [hlen] at h2 hm1
        rw [hm1] at e1
        have HF := Shut.mk hf
        have HF2 := Shut.mk (show fitsU y (loadU (l.take (300)) k y) = true by rw [e2]; exact fitsU_of hpl2)
        have HU2 := Shut.mk (show ((loadU (l.take (300)) k y : Nat) : Int) < 18446744073709551616 by rw [e2]; exact u_small h1 hpl2)
        have ES := Shut.mk (show setE (300) k y true = 0 from (setE_ok e1).trans (if_pos rfl))
        have E1 := Shut.mk e1
        have HM1 := Shut.mk hm1
        have HM4 := Shut.mk hm4
        have HM5 := Shut.mk hm5
        have HM6 := Shut.mk hm6
        have EBS := Shut.mk hEB
        have ew : IntKind.i64.wrap ((k : Int) + y) = ((k + y : Nat) : Int) := by rw [IntWalk.i64_in _ (by omega)]; omega
        clear hf e1 e2 h1 hlen hul hpl hpl2 hub hm1 hm2 hm3 hm4 hm5 hm6 EB hEB
        go_enter Try.func7, Try.ntmps7
        go_wp2_with fail
        have HM := Lib.hid (HM.out.alloc (.cells #[.int .i64 k, .int .i64 y, .int .u64 (u : Int)] 34))
        have HK := Lib.hid (Blk.new w 34 #[.int .i64 k, .int .i64 y, .int .u64 (u : Int)])
        have H0 := Lib.hid ((Below.refl w.heap.size w).alloc (Nat.le_refl _) (.cells #[.int .i64 k, .int .i64 y, .int .u64 (u : Int)] 34))
        go_at_call 10
        refine (copyb_spec A (300) c (l.take (300)) _ HM.out (by omega)).mono ?_
        rintro e w1 ⟨A1, n1, c1, rfl, hO1, hb1⟩
        obtain rfl : 300 = n1 := by rw [← hO1.1, HM.out.1]
        have H0 := Lib.hid (pure_trans H0.out hb1)
        have HB := Lib.hid (Below.refl w1.heap.size w1)
        have HI := Lib.hid hO1.is
        have hc1 := hO1.cap.1
        have V0 := Lib.hid (((HK.out.pure hb1).cell 0).trans (show _ = some (Value.int .i64 k) from rfl))
        have V1 := Lib.hid (((HK.out.pure hb1).cell 1).trans (show _ = some (Value.int .i64 y) from rfl))
        have V2 := Lib.hid (((HK.out.pure hb1).cell 2).trans (show _ = some (Value.int .u64 (u : Int)) from rfl))
        have v0 := V0.out
        have v1 := V1.out
        have v2 := V2.out
        clear hO1 hb1
        go_wp2_with fail
        go_at_call 11
        refine (load_spec A1 (300) c1 k y _ _ HI.out hc1 (by omega)).mono ?_
        rw [E1.out, (show loadU (l.take (300)) k y = loadU (l.take (300)) k y from rfl)]
        rintro e w2 ⟨rfl, hb⟩
        clear v0 v1 v2
        have HB := Lib.hid (pure_below HB.out hb); have v0 := cell_pure HB.out V0.out; have v1 := cell_pure HB.out V1.out; have v2 := cell_pure HB.out V2.out
        clear hb
        go_wp2_with fail
        go_at_call 21
        refine (set_spec A1 (300) c1 u k y (l.take (300)) _ (HI.out.pure HB.out) (by omega) HUU.out).mono ?_
        rw [Int.toNat_natCast, HF.out, ES.out, EBS.out]
        rintro e w3 ⟨AX, nX, cX, rfl, hOX, hb⟩
        obtain rfl : 300 = nX := HM1.out.symm.trans hOX.1
        clear v0 v1 v2
        have HB := Lib.hid (pure_below HB.out hb); have v0 := cell_pure HB.out V0.out; have v1 := cell_pure HB.out V1.out; have v2 := cell_pure HB.out V2.out
        have HX := Lib.hid hOX.is
        have hcX := hOX.cap.1
        clear hb hOX
        go_wp2_with fail
        go_at_call 11
        refine (load_spec AX (300) cX k y m _ HX.out hcX (by omega)).mono ?_
        rw [E1.out, HM5.out]
        rintro e w4 ⟨rfl, hb⟩
        clear v0 v1 v2
        have HB := Lib.hid (pure_below HB.out hb); have v0 := cell_pure HB.out V0.out; have v1 := cell_pure HB.out V1.out; have v2 := cell_pure HB.out V2.out
        have HX := Lib.hid (HX.out.pure hb)
        clear hb
        go_wp2_with fail
        go_at_call 21
        refine (set_spec AX (300) cX (loadU (l.take (300)) k y) k y m _ HX.out (by omega) HU2.out).mono ?_
        rw [Int.toNat_natCast, HF2.out, ES.out, HM6.out]
        rintro e w5 ⟨AZ, nZ, cZ, rfl, hOZ, hb⟩
        clear v0 v1 v2
        have HB := Lib.hid (pure_below HB.out hb); have v0 := cell_pure HB.out V0.out; have v1 := cell_pure HB.out V1.out; have v2 := cell_pure HB.out V2.out
        have HX := Lib.hid (HX.out.pure hb)
        have HZ := Lib.hid hOZ.is
        have HI := Lib.hid (HI.out.pure HB.out)
        clear hb hOZ
        go_wp2_with fail
        go_at_call 15
        refine (eqb_spec AZ A1 nZ (300) cZ c1 _ _ _ HZ.out HI.out).mono ?_
        rw [eqB_self]
        rintro e w' ⟨rfl, rfl⟩
        go_wp2
        go_loopw [14] (fun i wr => ∃ j : Nat, j ≤ 300 ∧ i = .int .i64 j ∧ ∃ nd, wr = w5.drewN nd) (fun i _ => 300 - (intOf i).toNat)
        case atStart => exact ⟨0, Nat.zero_le _, rfl, 0, rfl⟩
        case round =>
          obtain ⟨j, hj, rfl, nd, rfl⟩ := hrel
          by_cases hlt : j < 300
          · obtain ⟨b1, o1, rfl, hk1, a1⟩ := isb_at HX.out hlt
            obtain ⟨b2, o2, rfl, hk2, a2⟩ := isb_at HI.out hlt
            by_cases hjk : j < k
            · have e : (l.take (300))[j] = m[j] := by have := HM4.out j (.inl hjk); rw [List.getElem?_eq_getElem hk1, List.getElem?_eq_getElem hk2] at this; exact (Option.some.inj this).symm
              rw [e] at a2
              go_wp2
              go_quiet (fail)
              go_wp2
              go_roundw
              case rel => exact ⟨j + 1, by omega, by go_num, _, rfl⟩
              case measure => simp [intOf]; omega
            · by_cases hjy : k + y ≤ j
              · have e : (l.take (300))[j] = m[j] := by have := HM4.out j (.inr hjy); rw [List.getElem?_eq_getElem hk1, List.getElem?_eq_getElem hk2] at this; exact (Option.some.inj this).symm
                rw [e] at a2
                have d1 : ¬ (j : Int) < k := by omega
                have d2 : (k : Int) + y ≤ j := by omega
                go_wp2
                go_quiet (fail)
                go_wp2
                go_roundw
                case rel => exact ⟨j + 1, by omega, by go_num, _, rfl⟩
                case measure => simp [intOf]; omega
              · have d1 : ¬ (j : Int) < k := by omega
                have d2 : decide ((k : Int) + y ≤ j) = false := decide_eq_false (by omega)
                go_wp2
                go_quiet (fail)
                go_wp2
                go_roundw
                case rel => exact ⟨j + 1, by omega, by go_num, _, rfl⟩
                case measure => simp [intOf]; omega
          · obtain rfl : j = 300 := by omega
            have HB := Lib.hid (below_drewN HB.out nd)
            go_wp2_with fail
            go_at_call 16
            refine (works_spec _).mono ?_
            rintro e w9 ⟨rfl, hb⟩
            have HB := Lib.hid (pure_below HB.out hb)
            clear hb
            go_wp2
            go_ret
            exact ⟨rfl, pure_trans H0.out HB.out⟩
    · rw [hlen] at e1 e3
      have e0 : (loadE (300) a x != 0) = true := by simpa using e1
      have E1 := Shut.mk e1
      have E2 := Shut.mk e2
      have ES := Shut.mk (setE_no (b := fitsU x.toNat u) e1)
      have EB := Shut.mk (setB_no (b := fitsU x.toNat u) (u := u) (l := l.take (300)) (a := a) (x := x) (by rw [hlen]; exact e1))
      have e4 : (loadE (300) a x == loadE (300) a x) = true := by simp
      clear e1 e2 e3 hlen
      go_enter Try.func7, Try.ntmps7
      go_wp2_with fail
      have HM := Lib.hid (HM.out.alloc (.cells #[.int .i64 a, .int .i64 x, .int .u64 (u : Int)] 34))
      have HK := Lib.hid (Blk.new w 34 #[.int .i64 a, .int .i64 x, .int .u64 (u : Int)])
      have H0 := Lib.hid ((Below.refl w.heap.size w).alloc (Nat.le_refl _) (.cells #[.int .i64 a, .int .i64 x, .int .u64 (u : Int)] 34))
      go_at_call 10
      refine (copyb_spec A (300) c (l.take (300)) _ HM.out (by omega)).mono ?_
      rintro e w1 ⟨A1, n1, c1, rfl, hO1, hb1⟩
      obtain rfl : 300 = n1 := by rw [← hO1.1, HM.out.1]
      have H0 := Lib.hid (pure_trans H0.out hb1)
      have HB := Lib.hid (Below.refl w1.heap.size w1)
      have HI := Lib.hid hO1.is
      have hc1 := hO1.cap.1
      have V0 := Lib.hid (((HK.out.pure hb1).cell 0).trans (show _ = some (Value.int .i64 a) from rfl))
      have V1 := Lib.hid (((HK.out.pure hb1).cell 1).trans (show _ = some (Value.int .i64 x) from rfl))
      have V2 := Lib.hid (((HK.out.pure hb1).cell 2).trans (show _ = some (Value.int .u64 (u : Int)) from rfl))
      have v0 := V0.out
      have v1 := V1.out
      have v2 := V2.out
      clear hO1 hb1
      go_wp2_with fail
      go_at_call 11
      refine (load_spec A1 (300) c1 a x _ _ HI.out hc1 (by omega)).mono ?_
      rw [show loadE (300) a x = loadE (300) a x from rfl, E2.out]
      rintro e w2 ⟨rfl, hb⟩
      clear v0 v1 v2
      have HB := Lib.hid (pure_below HB.out hb); have v0 := cell_pure HB.out V0.out; have v1 := cell_pure HB.out V1.out; have v2 := cell_pure HB.out V2.out
      clear hb
      go_wp2_with fail
      go_at_call 21
      refine (set_spec A1 (300) c1 u a x (l.take (300)) _ (HI.out.pure HB.out) (by omega) HUU.out).mono ?_
      rw [ES.out, EB.out]
      rintro e w3 ⟨AX, nX, cX, rfl, hOX, hb⟩
      obtain rfl : 0 = nX := hOX.1
      clear v0 v1 v2
      have HB := Lib.hid (pure_below HB.out hb); have v0 := cell_pure HB.out V0.out; have v1 := cell_pure HB.out V1.out; have v2 := cell_pure HB.out V2.out
      clear hb hOX
      go_wp2_with fail
      go_at_call 16
      refine (works_spec _).mono ?_
      rintro e w9 ⟨rfl, hb⟩
      have HB := Lib.hid (pure_below HB.out hb)
      clear hb
      go_wp2
      go_ret
      exact ⟨rfl, pure_trans H0.out HB.out⟩

open Go.ChangeShapes Go.WideShapes Go.ChangeAt
theorem leSets_run {H : Type} {enc : TypeId × Value → H} {v0 v1 : Value} {d0 d1 : DataW H} {p0 p1 : List MemPlace} (W : World) (base : Nat) (k0 : Value.okWide Try.prog W .any base 22 v0) (k1 : Value.okWide Try.prog W .any base 34 v1)
    (h0 : DataW.Trod enc Try.prog W 0 (fun _ => true) true 22 v0 d0 p0) (h1 : DataW.Trod enc Try.prog W 0 (fun _ => true) true 34 v1 d1 p1) :
    Calls Try.prog 7 #[v0, v1] W fun e w' => e = .returned (.bool true) ∧ Below W.heap.size W w' := by
  obtain ⟨A, n, c, l, rfl, hI, hc, _⟩ := bytes_arg k0 h0
  obtain ⟨a, x, u, rfl, _, _, hu⟩ := case_arg k1 h1
  exact lesets_spec A n c u a x l W hI hc hu

set_option maxRecDepth 100000 in
theorem leSets_lifted (os : Os) (started : os.Started) (H : Type) (enc : TypeId × Value → H) :
    ReturnsInHanded {} Try.checked os 7 .any (Rows.leSetsSpec.pre6 enc Try.prog Try.f7 Rows.leSetsRow.domain false) (Rows.leSetsSpec.post enc Try.prog Try.f7 false true false false) := by
  refine returnsInHanded_of_change (C := Try.checked) acc_own started (by kernel_rfl) Try.func7
    (ChangeSpec.witness6 (enc := enc) (C := Try.checked) false ⟨#[], #[.slice none 0 0, .agg #[.int .i64 0, .int .i64 0, .int .u64 0]], []⟩ 8 (by kernel_rfl) (by kernel_rfl) (by kernel_rfl) (by kernel_rfl)) ?_
  intro W base args ds gs before hval0 hW hcnd _
  have hval : ∀ (j : Nat) t v, Try.f7.params[j]? = some t → args[j]? = some v → Value.okWide Try.prog W .any base t v := hval0
  have hW' := hW
  obtain ⟨p, q, hA0, hV, rfl, hfz, hnd⟩ := hW
  have hA : DataW.TrodAll enc Try.prog W 0 (fun _ => true) true Try.f7.params.toList args.toList ds p := hA0
  rw [Try.params7] at hA
  rw [Try.params7] at hval
  obtain ⟨v0, vs0, d0, ds0, p0, q0, hargs, rfl, rfl, h0, r0⟩ := trodAll_cons hA
  obtain ⟨v1, vs1, d1, ds1, p1, q1, rfl, rfl, rfl, h1, r1⟩ := trodAll_cons r0
  obtain ⟨rfl, rfl, rfl⟩ := trodAll_nil r1
  obtain rfl : args = #[v0, v1] := by cases args; simp_all
  obtain ⟨rfl, rfl⟩ := trodVars_none hV
  have k0 := hval 0 22 v0 rfl rfl
  have k1 := hval 1 34 v1 rfl rfl
  clear hA0 hval0
  refine (leSets_run (enc := enc) W base k0 k1 h0 h1).mono fun e W' ⟨he, bel⟩ => ?_
  subst he
  exact ⟨_, rfl, _, _, _, [], _, [], hW', trodAll_mk1 (shut_bool Try.underlying4 _), (trodAll_cons_mk (below_arg acc_laidOut (by kernel_rfl) (of_decide_eq_true (by kernel_rfl)) h0 bel) (trodAll_cons_mk (below_arg acc_laidOut (by kernel_rfl) (of_decide_eq_true (by kernel_rfl)) h1 bel) trodAll_mk0)), rfl, bel.frame _, fun h => by cases h⟩

theorem leSets_holds : Rows.LeSetsSaid :=
  OpenClaim.holds_of_wide 7 Try.f7 rfl rfl rfl rfl rfl rfl rfl ⟨rfl, rfl, rfl, rfl, rfl⟩ rfl rfl rfl rfl rfl (by kernel_rfl) Try.func7 (by kernel_rfl)
    (of_decide_eq_true (by kernel_rfl)) (by unfold Func.isWrapper; rw [if_neg (of_decide_eq_false (by kernel_rfl))]; exact ⟨rfl, rfl⟩)
    (fun os started H enc _ => leSets_lifted os started H enc)
#print axioms leSets_holds
end Go.Proofs.Ytbgakgljgdiimaa
