/-
  Package list's reference: At.
-/
import Derived.Test.YtaigofpipoimkaaLiI
namespace Go.Proofs.Ytaigofpipoimkaa
open Go.RowKit Go.Acc
set_option maxRecDepth 100000 in
set_option maxHeartbeats 1000000 in
theorem rat_spec (A : Option Addr) (n c : Nat) (p q t v i : Int) (l : List UInt8) (w : World) (h : IsB w A n l) (hn : n ≤ 1099511627776) :
    Calls Try.prog 38 #[.slice A n c, .agg #[.int .i64 p, .int .i64 q, .int .i64 t, .int .i64 v], .int .i64 i] w (AtW w l p q t v i) := by
  have hlen := h.1
  subst hlen
  have HL := Lib.hid ((h.alloc (.cells #[.int .i64 p, .int .i64 q, .int .i64 t, .int .i64 v] 23)).alloc (.cells #[.int .i64 0, .int .i64 0, .int .i64 0, .int .i64 0] 23))
  have HB := Lib.hid (((Below.refl w.heap.size w).alloc (Nat.le_refl _) (.cells #[.int .i64 p, .int .i64 q, .int .i64 t, .int .i64 v] 23)).alloc (by simp) (.cells #[.int .i64 0, .int .i64 0, .int .i64 0, .int .i64 0] 23))
  have HX := Lib.hid ((Blk.new w 23 #[.int .i64 p, .int .i64 q, .int .i64 t, .int .i64 v]).alloc (.cells #[.int .i64 0, .int .i64 0, .int .i64 0, .int .i64 0] 23))
  have HR := Lib.hid (Blk.new_ (w := w.alloc (.cells #[.int .i64 p, .int .i64 q, .int .i64 t, .int .i64 v] 23)) (g := w.heap.size + 1) (by simp) 23 #[.int .i64 0, .int .i64 0, .int .i64 0, .int .i64 0])
  clear h
  go_enter Try.func38, Try.ntmps38
  go_wp2_with fail
  go_at_call 86
  refine (rspan_spec A _ c p q t v l _ HL.out hn).mono ?_
  generalize (w.alloc (.cells #[.int .i64 p, .int .i64 q, .int .i64 t, .int .i64 v] 23)).alloc (.cells #[.int .i64 0, .int .i64 0, .int .i64 0, .int .i64 0] 23) = wB at HL HB HX HR ⊢
  unfold RsW
  rintro e w1 ⟨rfl, hb⟩
  obtain ⟨nf, hnf⟩ : ∃ x, lsFrom l p q t v = x := ⟨_, rfl⟩
  obtain ⟨na, hna⟩ : ∃ x, lsAt l p q t v = x := ⟨_, rfl⟩
  obtain ⟨nt, hnt⟩ : ∃ x, lsTo l p q t v = x := ⟨_, rfl⟩
  obtain ⟨nl, hnl⟩ : ∃ x, lsLen l p q t v = x := ⟨_, rfl⟩
  rw [hnf, hna, hnt, hnl]
  have HNA := Lib.hid hna
  have HNL := Lib.hid hnl
  have hszw : w.heap.size + 1 < w1.heap.size := by have := HR.out.lt; have := hb.size; omega
  replace HL := Lib.hid (HL.out.pure hb)
  replace HX := Lib.hid (HX.out.pure hb)
  replace HR := Lib.hid (HR.out.pure hb)
  replace HB := Lib.hid (pure_below HB.out hb)
  clear hb hnf hna hnt hnl
  by_cases he : lsE l p q t v = 0
  · have hok := ls_ok he
    have HLS := Lib.hid he
    rw [he]
    clear he
    by_cases hi0 : i < 0
    · have HE := Lib.hid (show atE l p q t v i = 6 by unfold atE; rw [if_neg (by rw [HLS.out]; decide), if_pos (.inl hi0)])
      have HN := Lib.hid (show (6 : Int) ≠ 0 by decide)
      have hd : decide (i < 0) = true := decide_eq_true hi0
      clear hi0 hok
      have r0 : _ = some (Value.int .i64 0) := HR.out.cell 0; have r1 : _ = some (Value.int .i64 0) := HR.out.cell 1; have r2 : _ = some (Value.int .i64 0) := HR.out.cell 2; have r3 : _ = some (Value.int .i64 0) := HR.out.cell 3; have f0 := HR.out.frozen 0; have f1 := HR.out.frozen 1; have f2 := HR.out.frozen 2; have f3 := HR.out.frozen 3
      go_wp2
      refine bodyPost_ret (v := .tuple #[.agg #[.int .i64 0, .int .i64 0, .int .i64 0, .int .i64 0], .int .i64 6]) (by simp [results, Try.results38, go_sem, r0, r1, r2, r3]) rfl ?_
      exact atw_no HE.out HN.out (below_set4 _ HB.out (Nat.le_succ _) _ _ _ _)
    · have hd0 : decide (i < 0) = false := decide_eq_false hi0
      by_cases hin : (nl : Int) ≤ i
      · have HE := Lib.hid (show atE l p q t v i = 6 by unfold atE; rw [if_neg (by rw [HLS.out]; decide), HNL.out, if_pos (.inr hin)])
        have HN := Lib.hid (show (6 : Int) ≠ 0 by decide)
        have hd : decide ((nl : Int) ≤ i) = true := decide_eq_true hin
        clear hi0 hok hin
        have r0 : _ = some (Value.int .i64 0) := HR.out.cell 0; have r1 : _ = some (Value.int .i64 0) := HR.out.cell 1; have r2 : _ = some (Value.int .i64 0) := HR.out.cell 2; have r3 : _ = some (Value.int .i64 0) := HR.out.cell 3; have f0 := HR.out.frozen 0; have f1 := HR.out.frozen 1; have f2 := HR.out.frozen 2; have f3 := HR.out.frozen 3
        go_wp2
        refine bodyPost_ret (v := .tuple #[.agg #[.int .i64 0, .int .i64 0, .int .i64 0, .int .i64 0], .int .i64 6]) (by simp [results, Try.results38, go_sem, r0, r1, r2, r3]) rfl ?_
        exact atw_no HE.out HN.out (below_set4 _ HB.out (Nat.le_succ _) _ _ _ _)
      · obtain ⟨hL, hT, hW, hbd, _, _, _, _, _⟩ := hok
        have v1 := isW_iff.1 hW
        obtain ⟨V, rfl⟩ : ∃ V : Nat, v = V := ⟨v.toNat, by omega⟩
        obtain ⟨I, rfl⟩ : ∃ I : Nat, i = I := ⟨i.toNat, by omega⟩
        rw [HNA.out, HNL.out, Int.toNat_natCast] at hbd
        have hI : I < nl := by omega
        have hd : decide (nl ≤ I) = false := decide_eq_false (by omega)
        obtain ⟨X, hX⟩ : ∃ X, I * V = X := ⟨_, rfl⟩
        obtain ⟨K, hK⟩ : ∃ K, nl * V = K := ⟨_, rfl⟩
        have hXK : X + V ≤ K := by
          rw [← hX, ← hK]
          have := Nat.mul_le_mul_right V (show I + 1 ≤ nl by omega)
          rw [Nat.succ_mul] at this
          exact this
        have hmulT : nl * (V + tgs t) = K + nl * tgs t := by rw [Nat.mul_add, hK]
        rw [hmulT] at hbd
        have HXX := Lib.hid hX
        have HKK := Lib.hid hK
        have HM1 := Lib.hid (mul_wrap0 I V X (by rw [Nat.add_zero]; exact hX) (by omega))
        have HM2 := Lib.hid (mul_wrap0 nl V K (by rw [Nat.add_zero]; exact hK) (by omega))
        have hV8 : V ≤ 8 := by omega
        clear hi0 hd0 hin hX hK hL hT hW v1 hmulT
        have x2 : _ = some (Value.int .i64 t) := HX.out.cell 2
        have x3 : _ = some (Value.int .i64 V) := HX.out.cell 3
        have ha40 : na + X ≤ 1099511627776 := by omega
        have hq1 : ¬ (w.heap.size + 1 = w1.heap.size) := by omega
        have hq2 : ¬ (w.heap.size = w1.heap.size) := by omega
        go_upto_region 6 with fail
        have HBD := Lib.hid hbd
        have HHD := Lib.hid hd
        have HXK := Lib.hid hXK
        have HGE := Lib.hid (show w.heap.size ≤ w1.heap.size by omega)
        have hm1 := HM1.out
        clear hd hbd hXK hszw
        replace HX := Lib.hid (HX.out.alloc (.cells #[.int .i64 ((na : Int) + X), .int .i64 V, .int .i64 0, .int .i64 0] 23))
        replace HR := Lib.hid (HR.out.alloc (.cells #[.int .i64 ((na : Int) + X), .int .i64 V, .int .i64 0, .int .i64 0] 23))
        replace HL := Lib.hid (HL.out.alloc (.cells #[.int .i64 ((na : Int) + X), .int .i64 V, .int .i64 0, .int .i64 0] 23))
        replace HB := Lib.hid (HB.out.alloc HB.out.size (.cells #[.int .i64 ((na : Int) + X), .int .i64 V, .int .i64 0, .int .i64 0] 23))
        have HN := Lib.hid (Blk.new w1 23 #[.int .i64 ((na : Int) + X), .int .i64 V, .int .i64 0, .int .i64 0])
        go_upto_region 7 with fail
        clear hm1 x2 x3
        generalize w1.alloc (.cells #[.int .i64 ((na : Int) + X), .int .i64 V, .int .i64 0, .int .i64 0] 23) = w2 at HX HR HL HB HN ⊢
        have x2 : _ = some (Value.int .i64 t) := HX.out.cell 2
        have x3 : _ = some (Value.int .i64 V) := HX.out.cell 3
        have n0 : _ = some (Value.int .i64 ((na : Int) + X)) := HN.out.cell 0; have n1 : _ = some (Value.int .i64 V) := HN.out.cell 1; have n2 : _ = some (Value.int .i64 0) := HN.out.cell 2; have n3 : _ = some (Value.int .i64 0) := HN.out.cell 3; have m2 := HN.out.frozen 2; have m3 := HN.out.frozen 3
        cases hTg : tagT t with
        | true =>
          have HTG := Lib.hid hTg
          have hbd := HBD.out
          have hXK := HXK.out
          rw [show tgs t = 1 by unfold tgs; rw [hTg]; rfl, Nat.mul_one] at hbd
          clear hTg
          have hlt : na + K + I < l.length := by omega
          obtain rfl : nl * V = K := HKK.out
          obtain ⟨c0, hc0⟩ : ∃ c0, l[na + nl * V + I] = c0 := ⟨_, rfl⟩
          have hget : l[na + nl * V + I]? = some c0 := by rw [List.getElem?_eq_getElem hlt, hc0]
          have hB : tagB l p q t V I = c0 := by
            unfold tagB
            rw [HNA.out, HNL.out, Int.toNat_natCast, Int.toNat_natCast, List.getD_eq_getElem?_getD, hget]
            rfl
          have HTB := Lib.hid hB
          have hIn : ¬ ((I : Int) < 0 ∨ (nl : Int) ≤ I) := by omega
          have HAE := Lib.hid (show atE l p q t V I = unE c0 by unfold atE; rw [if_neg (by rw [HLS.out]; decide), HNL.out, if_neg hIn, HTG.out, HTB.out]; rfl)
          have hsz : na + nl * V + I < l.length := hlt
          obtain ⟨g, off, hA, hkl, hcell⟩ := isb_at HL.out hlt
          have hcc : l[na + nl * V + I] = c0 := hc0
          rw [hcc] at hcell
          have HS3 := Lib.hid (show ((na : Int) + (nl : Int) * (V : Int) + (I : Int)).toNat = na + nl * V + I by rw [← Int.natCast_mul]; omega)
          have hp1 : (nl : Int) * (V : Int) ≤ 1099511627776 := by rw [← Int.natCast_mul]; omega
          have hp2 : 0 ≤ (nl : Int) * (V : Int) := by rw [← Int.natCast_mul]; omega
          have hp3 : (na : Int) + (nl : Int) * (V : Int) + (I : Int) ≤ 1099511627776 := by rw [← Int.natCast_mul]; omega
          have hp4 : (na : Int) + (nl : Int) * (V : Int) + (I : Int) < l.length := by rw [← Int.natCast_mul]; omega
          clear hB hget hc0 hIn hcc hkl hbd hXK
          go_wp2_with fail
          go_at_call 88
          refine (tags_spec t _).mono ?_
          rw [HTG.out]
          rintro e w9 ⟨rfl, rfl⟩
          subst hA
          have hs3 := HS3.out
          go_wp2_with fail
          clear hs3
          go_at_call 90
          refine (runpack_spec c0 _).mono ?_
          rintro e w9 ⟨rfl, rfl⟩
          have r0 : _ = some (Value.int .i64 0) := HR.out.cell 0; have r1 : _ = some (Value.int .i64 0) := HR.out.cell 1; have r2 : _ = some (Value.int .i64 0) := HR.out.cell 2; have r3 : _ = some (Value.int .i64 0) := HR.out.cell 3; have f0 := HR.out.frozen 0; have f1 := HR.out.frozen 1; have f2 := HR.out.frozen 2; have f3 := HR.out.frozen 3
          by_cases hu : unE c0 = 0
          · have HU := Lib.hid hu
            have HE := Lib.hid (HAE.out.trans hu)
            rw [hu]
            clear hu
            go_wp2
            refine bodyPost_ret (v := .tuple #[.agg #[.int .i64 ((na : Int) + X), .int .i64 V, .int .i64 (unT c0), .int .i64 (unW c0)], .int .i64 0]) (by simp [results, Try.results38, go_sem, r0, r1, r2, r3]) rfl ?_
            exact atw_yes HE.out (by rw [HNA.out, Int.toNat_natCast, Int.toNat_natCast, HXX.out]) rfl (by rw [HTG.out]; exact (if_pos rfl).trans (by rw [HTB.out])) (by rw [HTG.out]; exact (if_pos rfl).trans (by rw [HTB.out])) (below_set4 _ ((HB.out.setCell HGE.out _).setCell HGE.out _) (Nat.le_succ _) _ _ _ _)
          · have HU := Lib.hid hu
            have HE := HAE
            have hne : (unE c0 != 0) = true := by simpa using hu
            clear hu
            go_wp2
            refine bodyPost_ret (v := .tuple #[.agg #[.int .i64 0, .int .i64 0, .int .i64 0, .int .i64 0], .int .i64 (unE c0)]) (by simp [results, Try.results38, go_sem, r0, r1, r2, r3]) rfl ?_
            exact atw_no HE.out HU.out (below_set4 _ HB.out (Nat.le_succ _) _ _ _ _)
        | false =>
          have HTG := Lib.hid hTg
          clear hTg
          have HE := Lib.hid (show atE l p q t V I = 0 by unfold atE; rw [if_neg (by rw [HLS.out]; decide), HNL.out, if_neg (by omega), HTG.out]; rfl)
          go_wp2_with fail
          go_at_call 88
          refine (tags_spec t _).mono ?_
          rw [HTG.out]
          rintro e w9 ⟨rfl, rfl⟩
          go_wp2_with fail
          go_at_call 89
          refine (relem_spec t _).mono ?_
          rintro e w9 ⟨rfl, rfl⟩
          have r0 : _ = some (Value.int .i64 0) := HR.out.cell 0; have r1 : _ = some (Value.int .i64 0) := HR.out.cell 1; have r2 : _ = some (Value.int .i64 0) := HR.out.cell 2; have r3 : _ = some (Value.int .i64 0) := HR.out.cell 3; have f0 := HR.out.frozen 0; have f1 := HR.out.frozen 1; have f2 := HR.out.frozen 2; have f3 := HR.out.frozen 3
          go_wp2
          refine bodyPost_ret (v := .tuple #[.agg #[.int .i64 ((na : Int) + X), .int .i64 V, .int .i64 (elemT t), .int .i64 V], .int .i64 0]) (by simp [results, Try.results38, go_sem, r0, r1, r2, r3]) rfl ?_
          exact atw_yes HE.out (by rw [HNA.out, Int.toNat_natCast, Int.toNat_natCast, HXX.out]) rfl (by rw [HTG.out]; exact if_neg (by decide)) (by rw [HTG.out]; exact if_neg (by decide)) (below_set4 _ ((HB.out.setCell HGE.out _).setCell HGE.out _) (Nat.le_succ _) _ _ _ _)
  · have HE := Lib.hid (show atE l p q t v i = lsE l p q t v from if_pos he)
    have HN := Lib.hid he
    have hne : (lsE l p q t v != 0) = true := by simpa using he
    clear he
    have r0 : _ = some (Value.int .i64 0) := HR.out.cell 0; have r1 : _ = some (Value.int .i64 0) := HR.out.cell 1; have r2 : _ = some (Value.int .i64 0) := HR.out.cell 2; have r3 : _ = some (Value.int .i64 0) := HR.out.cell 3; have f0 := HR.out.frozen 0; have f1 := HR.out.frozen 1; have f2 := HR.out.frozen 2; have f3 := HR.out.frozen 3
    go_wp2
    refine bodyPost_ret (v := .tuple #[.agg #[.int .i64 0, .int .i64 0, .int .i64 0, .int .i64 0], .int .i64 (lsE l p q t v)]) (by simp [results, Try.results38, go_sem, r0, r1, r2, r3]) rfl ?_
    exact atw_no HE.out HN.out (below_set4 _ HB.out (Nat.le_succ _) _ _ _ _)
end Go.Proofs.Ytaigofpipoimkaa
