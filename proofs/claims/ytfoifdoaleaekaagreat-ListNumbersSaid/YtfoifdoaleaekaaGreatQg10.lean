/-
  Package list: At, the walk.
  Package ref: the examples of the chapter.
  Package list: the examples of the chapter.
-/
import Derived.Test.YtfoifdoaleaekaaGreatQg09
namespace Go.Proofs.YtfoifdoaleaekaaGreat
open Go.RowKit Go.Acc
theorem below_set4 {B : Nat} {a w : World} (g : Nat) (h : Below B a w) (hg : B ≤ g) (v0 v1 v2 v3 : Value) : Below B a ((((w.setCell ⟨g, 0, none⟩ v0).setCell ⟨g, 1, none⟩ v1).setCell ⟨g, 2, none⟩ v2).setCell ⟨g, 3, none⟩ v3) :=
  (((h.setCell hg _).setCell hg _).setCell hg _).setCell hg _
theorem lset4 {w : World} {q : Addr} {g : Nat} {v a b c d : Value} (h : w.cell? q = some v) (hne : q.block ≠ g) : ((((w.setCell ⟨g, 0, none⟩ a).setCell ⟨g, 1, none⟩ b).setCell ⟨g, 2, none⟩ c).setCell ⟨g, 3, none⟩ d).cell? q = some v :=
  lset (lset (lset (lset h hne) hne) hne) hne
set_option maxRecDepth 100000 in
set_option maxHeartbeats 2000000 in
theorem lat_spec (A : Option Addr) (n c : Nat) (p q t v i : Int) (l : List UInt8) (w : World) (h : IsB w A n l) (hc : n ≤ c) (hn : n ≤ 1099511627776) :
    Calls Tryz.prog 22 #[.slice A n c, .agg #[.int .i64 p, .int .i64 q, .int .i64 t, .int .i64 v], .int .i64 i] w (AtW w l p q t v i) := by
  have hlen := h.1
  subst hlen
  have HL := Lib.hid ((h.alloc (.cells #[.int .i64 p, .int .i64 q, .int .i64 t, .int .i64 v] 36)).alloc (.cells #[.int .i64 0, .int .i64 0, .int .i64 0, .int .i64 0] 36))
  have HB := Lib.hid (((Below.refl w.heap.size w).alloc (Nat.le_refl _) (.cells #[.int .i64 p, .int .i64 q, .int .i64 t, .int .i64 v] 36)).alloc (by simp) (.cells #[.int .i64 0, .int .i64 0, .int .i64 0, .int .i64 0] 36))
  have HX := Lib.hid ((Blk.new w 36 #[.int .i64 p, .int .i64 q, .int .i64 t, .int .i64 v]).alloc (.cells #[.int .i64 0, .int .i64 0, .int .i64 0, .int .i64 0] 36))
  have HR := Lib.hid (Blk.new_ (w := w.alloc (.cells #[.int .i64 p, .int .i64 q, .int .i64 t, .int .i64 v] 36)) (g := w.heap.size + 1) (by simp) 36 #[.int .i64 0, .int .i64 0, .int .i64 0, .int .i64 0])
  clear h
  go_enter Tryz.func22, Tryz.ntmps22
  go_wp2_with fail
  go_at_call 55
  refine (lfind_spec A _ c p q t v l _ HL.out hc hn).mono ?_
  generalize (w.alloc (.cells #[.int .i64 p, .int .i64 q, .int .i64 t, .int .i64 v] 36)).alloc (.cells #[.int .i64 0, .int .i64 0, .int .i64 0, .int .i64 0] 36) = wB at HL HB HX HR ⊢
  intro e w1 hpost
  obtain ⟨S, a0, a1, a2, a3, rfl, hS, heq, hb⟩ := lsw_open hpost
  have hstS := fun (W : World) (p : Addr) => run_store Tryz.prog W p S .plain hS
  obtain ⟨nf, hnf⟩ : ∃ x, lsFrom l p q t v = x := ⟨_, rfl⟩
  obtain ⟨na, hna⟩ : ∃ x, lsAt l p q t v = x := ⟨_, rfl⟩
  obtain ⟨nt, hnt⟩ : ∃ x, lsTo l p q t v = x := ⟨_, rfl⟩
  obtain ⟨nl, hnl⟩ : ∃ x, lsLen l p q t v = x := ⟨_, rfl⟩
  rw [hnf, hna, hnt, hnl]
  have HNA := Lib.hid hna
  have HNL := Lib.hid hnl
  clear hpost hnf hna hnt hnl
  have HV := Lib.hid (Blk.new w1 92 #[S, .int .i64 a0, .int .i64 a1, .int .i64 a2, .int .i64 a3, .int .i64 nf, .int .i64 na, .int .i64 nt, .int .i64 nl])
  have hszw : w.heap.size + 1 < w1.heap.size := by have := HR.out.lt; have := hb.size; omega
  replace HL := Lib.hid ((HL.out.pure hb).alloc (.cells #[S, .int .i64 a0, .int .i64 a1, .int .i64 a2, .int .i64 a3, .int .i64 nf, .int .i64 na, .int .i64 nt, .int .i64 nl] 92))
  replace HX := Lib.hid ((HX.out.pure hb).alloc (.cells #[S, .int .i64 a0, .int .i64 a1, .int .i64 a2, .int .i64 a3, .int .i64 nf, .int .i64 na, .int .i64 nt, .int .i64 nl] 92))
  replace HR := Lib.hid ((HR.out.pure hb).alloc (.cells #[S, .int .i64 a0, .int .i64 a1, .int .i64 a2, .int .i64 a3, .int .i64 nf, .int .i64 na, .int .i64 nt, .int .i64 nl] 92))
  replace HB := Lib.hid ((pure_below HB.out hb).alloc (pure_below HB.out hb).size (.cells #[S, .int .i64 a0, .int .i64 a1, .int .i64 a2, .int .i64 a3, .int .i64 nf, .int .i64 na, .int .i64 nt, .int .i64 nl] 92))
  have HEQ := Lib.hid heq
  have hz2 : w1.heap.size < (w1.alloc (.cells #[S, .int .i64 a0, .int .i64 a1, .int .i64 a2, .int .i64 a3, .int .i64 nf, .int .i64 na, .int .i64 nt, .int .i64 nl] 92)).heap.size := HV.out.lt
  clear hb heq hS
  go_upto_region 2 with fail
  generalize w1.alloc (.cells #[S, .int .i64 a0, .int .i64 a1, .int .i64 a2, .int .i64 a3, .int .i64 nf, .int .i64 na, .int .i64 nt, .int .i64 nl] 92) = w2 at HV HL HX HR HB hz2 ⊢
  clear hstS
  by_cases he : lsE l p q t v = 0
  · obtain ⟨rfl, e0, e1, e2, e3⟩ := HEQ.out he
    obtain rfl : p = a0 := e0.symm
    obtain rfl : q = a1 := e1.symm
    obtain rfl : t = a2 := e2.symm
    obtain rfl : v = a3 := e3.symm
    have hok := ls_ok he
    have HLS := Lib.hid he
    rw [he]
    clear HEQ he
    by_cases hi0 : i < 0
    · have HE := Lib.hid (show atE l p q t v i = 6 by unfold atE; rw [if_neg (by rw [HLS.out]; decide), if_pos (.inl hi0)])
      have HN := Lib.hid (show (6 : Int) ≠ 0 by decide)
      have hd : decide (i < 0) = true := decide_eq_true hi0
      clear hi0 hok
      have r0 : _ = some (Value.int .i64 0) := HR.out.cell 0; have r1 : _ = some (Value.int .i64 0) := HR.out.cell 1; have r2 : _ = some (Value.int .i64 0) := HR.out.cell 2; have r3 : _ = some (Value.int .i64 0) := HR.out.cell 3; have f0 := HR.out.frozen 0; have f1 := HR.out.frozen 1; have f2 := HR.out.frozen 2; have f3 := HR.out.frozen 3
      go_wp2
      refine bodyPost_ret (v := .tuple #[.agg #[.int .i64 0, .int .i64 0, .int .i64 0, .int .i64 0], .int .i64 6]) (by simp [results, Tryz.results22, go_sem, r0, r1, r2, r3]) rfl ?_
      exact atw_no HE.out HN.out ((((HB.out.setCell (Nat.le_succ _) _).setCell (Nat.le_succ _) _).setCell (Nat.le_succ _) _).setCell (Nat.le_succ _) _)
    · have hd0 : decide (i < 0) = false := decide_eq_false hi0
      by_cases hin : (nl : Int) ≤ i
      · have HE := Lib.hid (show atE l p q t v i = 6 by unfold atE; rw [if_neg (by rw [HLS.out]; decide), HNL.out, if_pos (.inr hin)])
        have HN := Lib.hid (show (6 : Int) ≠ 0 by decide)
        have hd : decide ((nl : Int) ≤ i) = true := decide_eq_true hin
        clear hi0 hok hin
        have y8 : _ = some (Value.int .i64 nl) := HV.out.cell 8
        have r0 : _ = some (Value.int .i64 0) := HR.out.cell 0; have r1 : _ = some (Value.int .i64 0) := HR.out.cell 1; have r2 : _ = some (Value.int .i64 0) := HR.out.cell 2; have r3 : _ = some (Value.int .i64 0) := HR.out.cell 3; have f0 := HR.out.frozen 0; have f1 := HR.out.frozen 1; have f2 := HR.out.frozen 2; have f3 := HR.out.frozen 3
        go_wp2
        refine bodyPost_ret (v := .tuple #[.agg #[.int .i64 0, .int .i64 0, .int .i64 0, .int .i64 0], .int .i64 6]) (by simp [results, Tryz.results22, go_sem, r0, r1, r2, r3]) rfl ?_
        exact atw_no HE.out HN.out ((((HB.out.setCell (Nat.le_succ _) _).setCell (Nat.le_succ _) _).setCell (Nat.le_succ _) _).setCell (Nat.le_succ _) _)
      · obtain ⟨hL, hT, hW, hbd, _, _, _, _, _⟩ := hok
        have v1 := isW_iff.1 hW
        obtain ⟨V, rfl⟩ : ∃ V : Nat, v = V := ⟨v.toNat, by omega⟩
        obtain ⟨I, rfl⟩ : ∃ I : Nat, i = I := ⟨i.toNat, by omega⟩
        rw [HNA.out, HNL.out, Int.toNat_natCast] at hbd
        have hI : I < nl := by omega
        have hd : decide (nl ≤ I) = false := decide_eq_false (by omega)
        have hidx := shindex hT
        obtain ⟨a, F, tg, hrow⟩ := sh_get hL hT
        rw [hrow] at hidx
        have htt := isT_iff.1 hT
        have ht0 := htt.1
        have ht37 := htt.2
        obtain ⟨X, hX⟩ : ∃ X, I * V = X := ⟨_, rfl⟩
        obtain ⟨K, hK⟩ : ∃ K, nl * V = K := ⟨_, rfl⟩
        have hXK : X + V ≤ K := by
          rw [← hX, ← hK]
          have := Nat.mul_le_mul_right V (show I + 1 ≤ nl by omega)
          rw [Nat.succ_mul] at this
          exact this
        have hmulT : nl * (V + tgs t) = K + nl * tgs t := by rw [Nat.mul_add, hK]
        rw [hmulT] at hbd
        have HXX := Lib.hid hX
        have HKK := Lib.hid hK
        have hV8 : V ≤ 8 := by omega
        clear hi0 hd0 hrow hin hX hK hL hT hW v1 htt hmulT
        cases hTg : tagT t with
        | true =>
          rw [hTg] at hidx
          rw [show tgs t = 1 by unfold tgs; rw [hTg]; rfl, Nat.mul_one] at hbd
          replace hidx : ∀ W, (Instr.index 99 (.agg shS) (.int .i64 t)).run Tryz.prog W = .ok (.agg #[a, F, .func (.func 94) #[] #[], tg]) W := hidx
          have hfld := sh_field a F (.func (.func 94) #[] #[]) tg
          have HTG := Lib.hid hTg
          clear hTg
          have hlt : na + K + I < l.length := by omega
          obtain ⟨c0, hc0⟩ : ∃ c0, l[na + K + I] = c0 := ⟨_, rfl⟩
          have hget : l[na + K + I]? = some c0 := by rw [List.getElem?_eq_getElem hlt, hc0]
          have hB : tagB l p q t V I = c0 := by
            unfold tagB
            rw [HNA.out, HNL.out, Int.toNat_natCast, Int.toNat_natCast, HKK.out, List.getD_eq_getElem?_getD, hget]
            rfl
          have HTB := Lib.hid hB
          have HGET := Lib.hid hget
          have hIk : I ≤ nl := by omega
          have hIn : ¬ ((I : Int) < 0 ∨ (nl : Int) ≤ I) := by omega
          have HAE := Lib.hid (show atE l p q t V I = unE c0 by unfold atE; rw [if_neg (by rw [HLS.out]; decide), HNL.out, if_neg hIn, HTG.out, HTB.out]; rfl)
          clear hB hget hc0 hIn
          have x2 := cell2 HX.out; have y0 : _ = some (Value.slice A l.length c) := HV.out.cell 0; have y1 : _ = some (Value.int .i64 p) := HV.out.cell 1; have y2 : _ = some (Value.int .i64 q) := HV.out.cell 2; have y3 : _ = some (Value.int .i64 t) := HV.out.cell 3; have y4 : _ = some (Value.int .i64 V) := HV.out.cell 4; have y5 : _ = some (Value.int .i64 nf) := HV.out.cell 5; have y6 : _ = some (Value.int .i64 na) := HV.out.cell 6; have y7 : _ = some (Value.int .i64 nt) := HV.out.cell 7; have y8 : _ = some (Value.int .i64 nl) := HV.out.cell 8
          have hg1 : w.heap.size ≠ w.heap.size + 1 := by omega
          have hg2 : w1.heap.size ≠ w.heap.size + 1 := by omega
          by_cases hu : unE c0 = 0
          · have HU := Lib.hid hu
            have HTR := Lib.hid (show tagR na X V c0 = _ from if_pos hu)
            have HE := Lib.hid (HAE.out.trans hu)
            clear hu
            go_wp2_with fail
            go_region_held3 (fun w' => w'.cell? ⟨w.heap.size, 2, none⟩ = some (.int .i64 t) ∧ w'.cell? ⟨w1.heap.size, 0, none⟩ = some (.slice A l.length c) ∧ w'.cell? ⟨w1.heap.size, 1, none⟩ = some (.int .i64 p) ∧ w'.cell? ⟨w1.heap.size, 2, none⟩ = some (.int .i64 q) ∧ w'.cell? ⟨w1.heap.size, 3, none⟩ = some (.int .i64 t) ∧ w'.cell? ⟨w1.heap.size, 4, none⟩ = some (.int .i64 V) ∧ w'.cell? ⟨w1.heap.size, 5, none⟩ = some (.int .i64 nf) ∧ w'.cell? ⟨w1.heap.size, 6, none⟩ = some (.int .i64 na) ∧ w'.cell? ⟨w1.heap.size, 7, none⟩ = some (.int .i64 nt) ∧ w'.cell? ⟨w1.heap.size, 8, none⟩ = some (.int .i64 nl)) (first | with_reducible exact ⟨x2, y0, y1, y2, y3, y4, y5, y6, y7, y8⟩ | with_reducible exact ⟨ldrew x2, ldrew y0, ldrew y1, ldrew y2, ldrew y3, ldrew y4, ldrew y5, ldrew y6, ldrew y7, ldrew y8⟩ | with_reducible exact ⟨lset4 x2 hg1, lset4 y0 hg2, lset4 y1 hg2, lset4 y2 hg2, lset4 y3 hg2, lset4 y4 hg2, lset4 y5 hg2, lset4 y6 hg2, lset4 y7 hg2, lset4 y8 hg2⟩)
              (first
                | (go_at_call 56; (with_reducible refine (shapes_spec _).mono ?_); rintro e w5 ⟨rfl, hb5⟩; have HB5 := Lib.hid hb5; replace HV := Lib.hid (HV.out.drew.pure hb5); replace HX := Lib.hid (HX.out.drew.pure hb5); replace HR := Lib.hid (HR.out.drew.pure hb5); replace HL := Lib.hid ((isl_drew HL.out).pure hb5); clear hb5 x2 y0 y1 y2 y3 y4 y5 y6 y7 y8; have x2 := cell2 HX.out; have y0 : _ = some (Value.slice A l.length c) := HV.out.cell 0; have y1 : _ = some (Value.int .i64 p) := HV.out.cell 1; have y2 : _ = some (Value.int .i64 q) := HV.out.cell 2; have y3 : _ = some (Value.int .i64 t) := HV.out.cell 3; have y4 : _ = some (Value.int .i64 V) := HV.out.cell 4; have y5 : _ = some (Value.int .i64 nf) := HV.out.cell 5; have y6 : _ = some (Value.int .i64 na) := HV.out.cell 6; have y7 : _ = some (Value.int .i64 nt) := HV.out.cell 7; have y8 : _ = some (Value.int .i64 nl) := HV.out.cell 8)
                | (go_at_call 94; ((with_reducible refine (tagged_spec A _ c p q t V nf na nt nl I X K l c0 _ HL.out hn HXX.out HKK.out hIk hlt HGET.out).mono ?_); rw [HTR.out, HU.out]); rintro e w6 ⟨rfl, hb6⟩; have HB6 := Lib.hid hb6; replace HV := Lib.hid (HV.out.pure hb6); replace HX := Lib.hid (HX.out.pure hb6); replace HR := Lib.hid (HR.out.pure hb6); clear hb6 x2 y0 y1 y2 y3 y4 y5 y6 y7 y8; have x2 := cell2 HX.out; have y0 : _ = some (Value.slice A l.length c) := HV.out.cell 0; have y1 : _ = some (Value.int .i64 p) := HV.out.cell 1; have y2 : _ = some (Value.int .i64 q) := HV.out.cell 2; have y3 : _ = some (Value.int .i64 t) := HV.out.cell 3; have y4 : _ = some (Value.int .i64 V) := HV.out.cell 4; have y5 : _ = some (Value.int .i64 nf) := HV.out.cell 5; have y6 : _ = some (Value.int .i64 na) := HV.out.cell 6; have y7 : _ = some (Value.int .i64 nt) := HV.out.cell 7; have y8 : _ = some (Value.int .i64 nl) := HV.out.cell 8; have r0 : _ = some (Value.int .i64 0) := HR.out.cell 0; have r1 : _ = some (Value.int .i64 0) := HR.out.cell 1; have r2 : _ = some (Value.int .i64 0) := HR.out.cell 2; have r3 : _ = some (Value.int .i64 0) := HR.out.cell 3; have f0 := HR.out.frozen 0; have f1 := HR.out.frozen 1; have f2 := HR.out.frozen 2; have f3 := HR.out.frozen 3))
            go_wp2
            refine bodyPost_ret (v := .tuple #[.agg #[.int .i64 ((na : Int) + X), .int .i64 V, .int .i64 (unT c0), .int .i64 (unW c0)], .int .i64 0]) (by simp [results, Tryz.results22, go_sem, r0, r1, r2, r3]) rfl ?_
            have HBQ := Lib.hid (pure_trans (pure_below HB.out.drew HB5.out) HB6.out)
            exact atw_yes HE.out (by rw [HNA.out, Int.toNat_natCast, Int.toNat_natCast, HXX.out]) rfl (by rw [HTG.out]; exact (if_pos rfl).trans (by rw [HTB.out])) (by rw [HTG.out]; exact (if_pos rfl).trans (by rw [HTB.out])) (below_set4 _ HBQ.out (Nat.le_succ _) _ _ _ _)
          · have HU := Lib.hid hu
            have HTR := Lib.hid (show tagR na X V c0 = _ from if_neg hu)
            have HE := HAE
            clear hu
            go_wp2_with fail
            go_region_held3 (fun w' => w'.cell? ⟨w.heap.size, 2, none⟩ = some (.int .i64 t) ∧ w'.cell? ⟨w1.heap.size, 0, none⟩ = some (.slice A l.length c) ∧ w'.cell? ⟨w1.heap.size, 1, none⟩ = some (.int .i64 p) ∧ w'.cell? ⟨w1.heap.size, 2, none⟩ = some (.int .i64 q) ∧ w'.cell? ⟨w1.heap.size, 3, none⟩ = some (.int .i64 t) ∧ w'.cell? ⟨w1.heap.size, 4, none⟩ = some (.int .i64 V) ∧ w'.cell? ⟨w1.heap.size, 5, none⟩ = some (.int .i64 nf) ∧ w'.cell? ⟨w1.heap.size, 6, none⟩ = some (.int .i64 na) ∧ w'.cell? ⟨w1.heap.size, 7, none⟩ = some (.int .i64 nt) ∧ w'.cell? ⟨w1.heap.size, 8, none⟩ = some (.int .i64 nl)) (first | with_reducible exact ⟨x2, y0, y1, y2, y3, y4, y5, y6, y7, y8⟩ | with_reducible exact ⟨ldrew x2, ldrew y0, ldrew y1, ldrew y2, ldrew y3, ldrew y4, ldrew y5, ldrew y6, ldrew y7, ldrew y8⟩ | with_reducible exact ⟨lset4 x2 hg1, lset4 y0 hg2, lset4 y1 hg2, lset4 y2 hg2, lset4 y3 hg2, lset4 y4 hg2, lset4 y5 hg2, lset4 y6 hg2, lset4 y7 hg2, lset4 y8 hg2⟩)
              (first
                | (go_at_call 56; (with_reducible refine (shapes_spec _).mono ?_); rintro e w5 ⟨rfl, hb5⟩; have HB5 := Lib.hid hb5; replace HV := Lib.hid (HV.out.drew.pure hb5); replace HX := Lib.hid (HX.out.drew.pure hb5); replace HR := Lib.hid (HR.out.drew.pure hb5); replace HL := Lib.hid ((isl_drew HL.out).pure hb5); clear hb5 x2 y0 y1 y2 y3 y4 y5 y6 y7 y8; have x2 := cell2 HX.out; have y0 : _ = some (Value.slice A l.length c) := HV.out.cell 0; have y1 : _ = some (Value.int .i64 p) := HV.out.cell 1; have y2 : _ = some (Value.int .i64 q) := HV.out.cell 2; have y3 : _ = some (Value.int .i64 t) := HV.out.cell 3; have y4 : _ = some (Value.int .i64 V) := HV.out.cell 4; have y5 : _ = some (Value.int .i64 nf) := HV.out.cell 5; have y6 : _ = some (Value.int .i64 na) := HV.out.cell 6; have y7 : _ = some (Value.int .i64 nt) := HV.out.cell 7; have y8 : _ = some (Value.int .i64 nl) := HV.out.cell 8)
                | (go_at_call 94; ((with_reducible refine (tagged_spec A _ c p q t V nf na nt nl I X K l c0 _ HL.out hn HXX.out HKK.out hIk hlt HGET.out).mono ?_); rw [HTR.out]); rintro e w6 ⟨rfl, hb6⟩; have HB6 := Lib.hid hb6; replace HV := Lib.hid (HV.out.pure hb6); replace HX := Lib.hid (HX.out.pure hb6); replace HR := Lib.hid (HR.out.pure hb6); clear hb6 x2 y0 y1 y2 y3 y4 y5 y6 y7 y8; have x2 := cell2 HX.out; have y0 : _ = some (Value.slice A l.length c) := HV.out.cell 0; have y1 : _ = some (Value.int .i64 p) := HV.out.cell 1; have y2 : _ = some (Value.int .i64 q) := HV.out.cell 2; have y3 : _ = some (Value.int .i64 t) := HV.out.cell 3; have y4 : _ = some (Value.int .i64 V) := HV.out.cell 4; have y5 : _ = some (Value.int .i64 nf) := HV.out.cell 5; have y6 : _ = some (Value.int .i64 na) := HV.out.cell 6; have y7 : _ = some (Value.int .i64 nt) := HV.out.cell 7; have y8 : _ = some (Value.int .i64 nl) := HV.out.cell 8; have r0 : _ = some (Value.int .i64 0) := HR.out.cell 0; have r1 : _ = some (Value.int .i64 0) := HR.out.cell 1; have r2 : _ = some (Value.int .i64 0) := HR.out.cell 2; have r3 : _ = some (Value.int .i64 0) := HR.out.cell 3; have f0 := HR.out.frozen 0; have f1 := HR.out.frozen 1; have f2 := HR.out.frozen 2; have f3 := HR.out.frozen 3))
            go_wp2
            refine bodyPost_ret (v := .tuple #[.agg #[.int .i64 0, .int .i64 0, .int .i64 0, .int .i64 0], .int .i64 (unE c0)]) (by simp [results, Tryz.results22, go_sem, r0, r1, r2, r3]) rfl ?_
            have HBQ := Lib.hid (pure_trans (pure_below HB.out.drew HB5.out) HB6.out)
            exact atw_no HE.out HU.out (below_set4 _ HBQ.out (Nat.le_succ _) _ _ _ _)
        | false =>
          rw [hTg] at hidx
          replace hidx : ∀ W, (Instr.index 99 (.agg shS) (.int .i64 t)).run Tryz.prog W = .ok (.agg #[a, F, .func (.func 92) #[] #[], tg]) W := hidx
          have hfld := sh_field a F (.func (.func 92) #[] #[]) tg
          have HTG := Lib.hid hTg
          clear hTg
          have HE := Lib.hid (show atE l p q t V I = 0 by unfold atE; rw [if_neg (by rw [HLS.out]; decide), HNL.out, if_neg (by omega), HTG.out]; rfl)
          have ha40 : na + X ≤ 1099511627776 := by omega
          have x2 := cell2 HX.out; have y0 : _ = some (Value.slice A l.length c) := HV.out.cell 0; have y1 : _ = some (Value.int .i64 p) := HV.out.cell 1; have y2 : _ = some (Value.int .i64 q) := HV.out.cell 2; have y3 : _ = some (Value.int .i64 t) := HV.out.cell 3; have y4 : _ = some (Value.int .i64 V) := HV.out.cell 4; have y5 : _ = some (Value.int .i64 nf) := HV.out.cell 5; have y6 : _ = some (Value.int .i64 na) := HV.out.cell 6; have y7 : _ = some (Value.int .i64 nt) := HV.out.cell 7; have y8 : _ = some (Value.int .i64 nl) := HV.out.cell 8
          have hg1 : w.heap.size ≠ w.heap.size + 1 := by omega
          have hg2 : w1.heap.size ≠ w.heap.size + 1 := by omega
          go_wp2_with fail
          go_region_held3 (fun w' => w'.cell? ⟨w.heap.size, 2, none⟩ = some (.int .i64 t) ∧ w'.cell? ⟨w1.heap.size, 0, none⟩ = some (.slice A l.length c) ∧ w'.cell? ⟨w1.heap.size, 1, none⟩ = some (.int .i64 p) ∧ w'.cell? ⟨w1.heap.size, 2, none⟩ = some (.int .i64 q) ∧ w'.cell? ⟨w1.heap.size, 3, none⟩ = some (.int .i64 t) ∧ w'.cell? ⟨w1.heap.size, 4, none⟩ = some (.int .i64 V) ∧ w'.cell? ⟨w1.heap.size, 5, none⟩ = some (.int .i64 nf) ∧ w'.cell? ⟨w1.heap.size, 6, none⟩ = some (.int .i64 na) ∧ w'.cell? ⟨w1.heap.size, 7, none⟩ = some (.int .i64 nt) ∧ w'.cell? ⟨w1.heap.size, 8, none⟩ = some (.int .i64 nl)) (first | with_reducible exact ⟨x2, y0, y1, y2, y3, y4, y5, y6, y7, y8⟩ | with_reducible exact ⟨ldrew x2, ldrew y0, ldrew y1, ldrew y2, ldrew y3, ldrew y4, ldrew y5, ldrew y6, ldrew y7, ldrew y8⟩ | with_reducible exact ⟨lset4 x2 hg1, lset4 y0 hg2, lset4 y1 hg2, lset4 y2 hg2, lset4 y3 hg2, lset4 y4 hg2, lset4 y5 hg2, lset4 y6 hg2, lset4 y7 hg2, lset4 y8 hg2⟩)
            (first
              | (go_at_call 56; (with_reducible refine (shapes_spec _).mono ?_); rintro e w5 ⟨rfl, hb5⟩; have HB5 := Lib.hid hb5; replace HV := Lib.hid (HV.out.drew.pure hb5); replace HX := Lib.hid (HX.out.drew.pure hb5); replace HR := Lib.hid (HR.out.drew.pure hb5); replace HL := Lib.hid ((isl_drew HL.out).pure hb5); clear hb5 x2 y0 y1 y2 y3 y4 y5 y6 y7 y8; have x2 := cell2 HX.out; have y0 : _ = some (Value.slice A l.length c) := HV.out.cell 0; have y1 : _ = some (Value.int .i64 p) := HV.out.cell 1; have y2 : _ = some (Value.int .i64 q) := HV.out.cell 2; have y3 : _ = some (Value.int .i64 t) := HV.out.cell 3; have y4 : _ = some (Value.int .i64 V) := HV.out.cell 4; have y5 : _ = some (Value.int .i64 nf) := HV.out.cell 5; have y6 : _ = some (Value.int .i64 na) := HV.out.cell 6; have y7 : _ = some (Value.int .i64 nt) := HV.out.cell 7; have y8 : _ = some (Value.int .i64 nl) := HV.out.cell 8)
              | (go_at_call 92; (with_reducible refine (ltyped_spec A _ c p q t V nf na nt nl I X _ HXX.out ha40).mono ?_); rintro e w6 ⟨rfl, hb6⟩; have HB6 := Lib.hid hb6; replace HV := Lib.hid (HV.out.pure hb6); replace HX := Lib.hid (HX.out.pure hb6); replace HR := Lib.hid (HR.out.pure hb6); clear hb6 x2 y0 y1 y2 y3 y4 y5 y6 y7 y8; have x2 := cell2 HX.out; have y0 : _ = some (Value.slice A l.length c) := HV.out.cell 0; have y1 : _ = some (Value.int .i64 p) := HV.out.cell 1; have y2 : _ = some (Value.int .i64 q) := HV.out.cell 2; have y3 : _ = some (Value.int .i64 t) := HV.out.cell 3; have y4 : _ = some (Value.int .i64 V) := HV.out.cell 4; have y5 : _ = some (Value.int .i64 nf) := HV.out.cell 5; have y6 : _ = some (Value.int .i64 na) := HV.out.cell 6; have y7 : _ = some (Value.int .i64 nt) := HV.out.cell 7; have y8 : _ = some (Value.int .i64 nl) := HV.out.cell 8; have r0 : _ = some (Value.int .i64 0) := HR.out.cell 0; have r1 : _ = some (Value.int .i64 0) := HR.out.cell 1; have r2 : _ = some (Value.int .i64 0) := HR.out.cell 2; have r3 : _ = some (Value.int .i64 0) := HR.out.cell 3; have f0 := HR.out.frozen 0; have f1 := HR.out.frozen 1; have f2 := HR.out.frozen 2; have f3 := HR.out.frozen 3))
          go_wp2
          refine bodyPost_ret (v := .tuple #[.agg #[.int .i64 ((na : Int) + X), .int .i64 V, .int .i64 (elemT t), .int .i64 V], .int .i64 0]) (by simp [results, Tryz.results22, go_sem, r0, r1, r2, r3]) rfl ?_
          have HBQ := Lib.hid (pure_trans (pure_below HB.out.drew HB5.out) HB6.out)
          exact atw_yes HE.out (by rw [HNA.out, Int.toNat_natCast, Int.toNat_natCast, HXX.out]) rfl (by rw [HTG.out]; exact if_neg (by decide)) (by rw [HTG.out]; exact if_neg (by decide)) (below_set4 _ HBQ.out (Nat.le_succ _) _ _ _ _)
  · have HE := Lib.hid (show atE l p q t v i = lsE l p q t v from if_pos he)
    have HN := Lib.hid he
    have hne : (lsE l p q t v != 0) = true := by simpa using he
    clear HEQ he
    have r0 : _ = some (Value.int .i64 0) := HR.out.cell 0; have r1 : _ = some (Value.int .i64 0) := HR.out.cell 1; have r2 : _ = some (Value.int .i64 0) := HR.out.cell 2; have r3 : _ = some (Value.int .i64 0) := HR.out.cell 3; have f0 := HR.out.frozen 0; have f1 := HR.out.frozen 1; have f2 := HR.out.frozen 2; have f3 := HR.out.frozen 3
    go_wp2
    refine bodyPost_ret (v := .tuple #[.agg #[.int .i64 0, .int .i64 0, .int .i64 0, .int .i64 0], .int .i64 (lsE l p q t v)]) (by simp [results, Tryz.results22, go_sem, r0, r1, r2, r3]) rfl ?_
    exact atw_no HE.out HN.out ((((HB.out.setCell (Nat.le_succ _) _).setCell (Nat.le_succ _) _).setCell (Nat.le_succ _) _).setCell (Nat.le_succ _) _)
end Go.Proofs.YtfoifdoaleaekaaGreat

namespace Go.Proofs.YtfoifdoaleaekaaGreat
open Go.RowKit Go.Acc
def unb (vs : Array Value) : List UInt8 := vs.toList.map fun v => match v with | .int _ z => UInt8.ofNat z.toNat | _ => 0
theorem isb_vs (w : World) (vs : Array Value) (n : Nat) (hn : vs.size = n) (h : vs.toList = (unb vs).flatMap bc) : IsB (w.alloc (.cells vs 5)) (some ⟨w.heap.size, 0, none⟩) n (unb vs) :=
  ⟨by rw [← hn]; simp [unb], fun j u hj => ⟨_, _, rfl, by rw [(Blk.new w 5 vs).cell, Nat.zero_add, ← Array.getElem?_toList, h]; exact hj⟩⟩
theorem root_spec2 (A : Option Addr) (n c : Nat) (l : List UInt8) (w : World) (a b d e f : Int) (hl : IsB w A n l) (hn : n ≤ 9223372036854775807) (h : rootR l = (a, b, d, e)) (h' : rootE l = f) :
    Calls Tryz.prog 13 #[.slice A n c] w fun e' w' => e' = .returned (.tuple #[.agg #[.int .i64 a, .int .i64 b, .int .i64 d, .int .i64 e], .int .i64 f]) ∧ Below w.heap.size w w' := by
  have := root_spec A n c l w hl hn
  rw [h, h'] at this
  exact this
end Go.Proofs.YtfoifdoaleaekaaGreat

namespace Go.Proofs.YtfoifdoaleaekaaGreat
open Go.RowKit Go.Acc
theorem lspan_is (A : Option Addr) (n c : Nat) (p q t v f a o er : Int) (l : List UInt8) (w : World) (h : IsB w A n l) (hc : n ≤ c) (hn : n ≤ 1099511627776) (h1 : (lsFrom l p q t v : Int) = f) (h2 : (lsAt l p q t v : Int) = a) (h3 : (lsTo l p q t v : Int) = o) (h4 : lsE l p q t v = er) :
    Calls Tryz.prog 88 #[.slice A n c, .agg #[.int .i64 p, .int .i64 q, .int .i64 t, .int .i64 v]] w fun e w' => e = .returned (.tuple #[.int .i64 f, .int .i64 a, .int .i64 o, .int .i64 er]) ∧ Below w.heap.size w w' := by
  subst h1 h2 h3 h4
  exact lspan_spec A n c p q t v l w h hc hn
theorem llen_is (A : Option Addr) (n c : Nat) (p q t v k er : Int) (l : List UInt8) (w : World) (h : IsB w A n l) (hc : n ≤ c) (hn : n ≤ 1099511627776) (h1 : (lsLen l p q t v : Int) = k) (h4 : lsE l p q t v = er) :
    Calls Tryz.prog 54 #[.slice A n c, .agg #[.int .i64 p, .int .i64 q, .int .i64 t, .int .i64 v]] w fun e w' => e = .returned (.tuple #[.int .i64 k, .int .i64 er]) ∧ Below w.heap.size w w' := by
  subst h1 h4
  exact llen_spec A n c p q t v l w h hc hn
theorem lat_is (A : Option Addr) (n c : Nat) (p q t v i a b d g er : Int) (l : List UInt8) (w : World) (h : IsB w A n l) (hc : n ≤ c) (hn : n ≤ 1099511627776) (h1 : atP l p q t v i = a) (h2 : atQ l p q t v i = b) (h3 : atT l p q t v i = d) (h4 : atV l p q t v i = g) (h5 : atE l p q t v i = er) :
    Calls Tryz.prog 22 #[.slice A n c, .agg #[.int .i64 p, .int .i64 q, .int .i64 t, .int .i64 v], .int .i64 i] w fun e w' => e = .returned (.tuple #[.agg #[.int .i64 a, .int .i64 b, .int .i64 d, .int .i64 g], .int .i64 er]) ∧ Below w.heap.size w w' := by
  subst h1 h2 h3 h4 h5
  exact lat_spec A n c p q t v i l w h hc hn
set_option maxHeartbeats 400000 in
theorem of24_spec (p q t v : Int) (w : World) : Calls Tryz.prog 49 #[.int .i64 p, .int .i64 q, .int .i64 t, .int .i64 v] w fun e w' => e = .returned (.agg #[.int .i64 p, .int .i64 q, .int .i64 t, .int .i64 v]) ∧ Below w.heap.size w w' := by
  go_enter Tryz.func49, Tryz.ntmps49
  go_wp2
  refine bodyPost_ret (v := .agg #[.int .i64 p, .int .i64 q, .int .i64 t, .int .i64 v]) (by simp [results, Tryz.results49, go_sem]) rfl ⟨rfl, ?_⟩
  exact (Below.refl _ _).alloc (Nat.le_refl _) _
set_option maxHeartbeats 400000 in
theorem spans_yes (A : Option Addr) (n c : Nat) (p q t v f a o er : Int) (l : List UInt8) (w : World) (h : IsB w A n l) (hc : n ≤ c) (hn : n ≤ 1099511627776) (h1 : (lsFrom l p q t v : Int) = f) (h2 : (lsAt l p q t v : Int) = a) (h3 : (lsTo l p q t v : Int) = o) (h4 : lsE l p q t v = er) :
    Calls Tryz.prog 50 #[.slice A n c, .agg #[.int .i64 p, .int .i64 q, .int .i64 t, .int .i64 v], .int .i64 f, .int .i64 a, .int .i64 o, .int .i64 er] w fun e w' => e = .returned (.bool true) ∧ Below w.heap.size w w' := by
  have HL := Lib.hid (h.alloc (.cells #[.int .i64 p, .int .i64 q, .int .i64 t, .int .i64 v] 36))
  have HB := Lib.hid ((Below.refl w.heap.size w).alloc (Nat.le_refl _) (.cells #[.int .i64 p, .int .i64 q, .int .i64 t, .int .i64 v] 36))
  have H1 := Lib.hid h1
  have H2 := Lib.hid h2
  have H3 := Lib.hid h3
  have H4 := Lib.hid h4
  clear h h1 h2 h3 h4
  go_enter Tryz.func50, Tryz.ntmps50
  go_wp2_with fail
  go_at_call 88
  refine (lspan_is A n c p q t v f a o er l _ HL.out hc hn H1.out H2.out H3.out H4.out).mono ?_
  rintro e w1 ⟨rfl, hb⟩
  replace HB := Lib.hid (pure_below HB.out hb)
  clear hb
  go_wp2
  go_ret
  exact ⟨rfl, HB.out⟩
set_option maxHeartbeats 400000 in
theorem has_yes (A : Option Addr) (n c : Nat) (p q t v k er : Int) (l : List UInt8) (w : World) (h : IsB w A n l) (hc : n ≤ c) (hn : n ≤ 1099511627776) (h1 : (lsLen l p q t v : Int) = k) (h4 : lsE l p q t v = er) :
    Calls Tryz.prog 21 #[.slice A n c, .agg #[.int .i64 p, .int .i64 q, .int .i64 t, .int .i64 v], .int .i64 k, .int .i64 er] w fun e w' => e = .returned (.bool true) ∧ Below w.heap.size w w' := by
  have HL := Lib.hid (h.alloc (.cells #[.int .i64 p, .int .i64 q, .int .i64 t, .int .i64 v] 36))
  have HB := Lib.hid ((Below.refl w.heap.size w).alloc (Nat.le_refl _) (.cells #[.int .i64 p, .int .i64 q, .int .i64 t, .int .i64 v] 36))
  have H1 := Lib.hid h1
  have H4 := Lib.hid h4
  clear h h1 h4
  go_enter Tryz.func21, Tryz.ntmps21
  go_wp2_with fail
  go_at_call 54
  refine (llen_is A n c p q t v k er l _ HL.out hc hn H1.out H4.out).mono ?_
  rintro e w1 ⟨rfl, hb⟩
  replace HB := Lib.hid (pure_below HB.out hb)
  clear hb
  go_wp2
  go_ret
  exact ⟨rfl, HB.out⟩
set_option maxHeartbeats 400000 in
theorem gives_yes (A : Option Addr) (n c : Nat) (p q t v i a b d g er : Int) (l : List UInt8) (w : World) (h : IsB w A n l) (hc : n ≤ c) (hn : n ≤ 1099511627776) (h1 : atP l p q t v i = a) (h2 : atQ l p q t v i = b) (h3 : atT l p q t v i = d) (h4 : atV l p q t v i = g) (h5 : atE l p q t v i = er) :
    Calls Tryz.prog 51 #[.slice A n c, .agg #[.int .i64 p, .int .i64 q, .int .i64 t, .int .i64 v], .int .i64 i, .agg #[.int .i64 a, .int .i64 b, .int .i64 d, .int .i64 g], .int .i64 er] w fun e w' => e = .returned (.bool true) ∧ Below w.heap.size w w' := by
  have HL := Lib.hid ((h.alloc (.cells #[.int .i64 p, .int .i64 q, .int .i64 t, .int .i64 v] 36)).alloc (.cells #[.int .i64 a, .int .i64 b, .int .i64 d, .int .i64 g] 36))
  have HB := Lib.hid (((Below.refl w.heap.size w).alloc (Nat.le_refl _) (.cells #[.int .i64 p, .int .i64 q, .int .i64 t, .int .i64 v] 36)).alloc (by simp) (.cells #[.int .i64 a, .int .i64 b, .int .i64 d, .int .i64 g] 36))
  have HK := Lib.hid (Blk.new_ (w := w.alloc (.cells #[.int .i64 p, .int .i64 q, .int .i64 t, .int .i64 v] 36)) (g := w.heap.size + 1) (by simp) 36 #[.int .i64 a, .int .i64 b, .int .i64 d, .int .i64 g])
  have H1 := Lib.hid h1
  have H2 := Lib.hid h2
  have H3 := Lib.hid h3
  have H4 := Lib.hid h4
  have H5 := Lib.hid h5
  clear h h1 h2 h3 h4 h5
  go_enter Tryz.func51, Tryz.ntmps51
  go_wp2_with fail
  go_at_call 22
  refine (lat_is A n c p q t v i a b d g er l _ HL.out hc hn H1.out H2.out H3.out H4.out H5.out).mono ?_
  rintro e w1 ⟨rfl, hb⟩
  replace HB := Lib.hid (pure_below HB.out hb)
  have c0 := cell0 (HK.out.pure hb)
  have c1 := cell1 (HK.out.pure hb)
  have c2 := cell2 (HK.out.pure hb)
  have c3 := cell3 (HK.out.pure hb)
  have hlt := (HK.out.pure hb).lt
  clear hb
  go_wp2
  go_ret
  exact ⟨rfl, HB.out.alloc HB.out.size _⟩
end Go.Proofs.YtfoifdoaleaekaaGreat
