/-
  Package list: At, the walk.
  Package ref: the examples of the chapter.
  Package list: the examples of the chapter.
  Package list: what holds of a vector and of its elements, in plain terms.
  Package list, plain: what the readers of lists find in a built document. No program in sight.
-/
import Derived.Test.YtfoifdoaleaekaaGreatQf09
namespace Go.Proofs.YtfoifdoaleaekaaGreat
open Go.RowKit Go.Acc
theorem below_set4 {B : Nat} {a w : World} (g : Nat) (h : Below B a w) (hg : B ≤ g) (v0 v1 v2 v3 : Value) : Below B a ((((w.setCell ⟨g, 0, none⟩ v0).setCell ⟨g, 1, none⟩ v1).setCell ⟨g, 2, none⟩ v2).setCell ⟨g, 3, none⟩ v3) :=
  (((h.setCell hg _).setCell hg _).setCell hg _).setCell hg _
theorem lset4 {w : World} {q : Addr} {g : Nat} {v a b c d : Value} (h : w.cell? q = some v) (hne : q.block ≠ g) : ((((w.setCell ⟨g, 0, none⟩ a).setCell ⟨g, 1, none⟩ b).setCell ⟨g, 2, none⟩ c).setCell ⟨g, 3, none⟩ d).cell? q = some v :=
  lset (lset (lset (lset h hne) hne) hne) hne
set_option maxRecDepth 100000 in
set_option maxHeartbeats 2000000 in
theorem lat_spec (A : Option Addr) (n c : Nat) (p q t v i : Int) (l : List UInt8) (w : World) (h : IsB w A n l) (hc : n ≤ c) (hn : n ≤ 1099511627776) :
    Calls Tryz.prog 22 #[.slice A n c, .agg #[.int .i64 p, .int .i64 q, .int .i64 t, .int .i64 v], .int .i64 i] w (AtW w l p q t v i) := by
  have hlen := h.1
  subst hlen
  have HL := Lib.hid ((h.alloc (.cells #[.int .i64 p, .int .i64 q, .int .i64 t, .int .i64 v] 36)).alloc (.cells #[.int .i64 0, .int .i64 0, .int .i64 0, .int .i64 0] 36))
  have HB := Lib.hid (((Below.refl w.heap.size w).alloc (Nat.le_refl _) (.cells #[.int .i64 p, .int .i64 q, .int .i64 t, .int .i64 v] 36)).alloc (by simp) (.cells #[.int .i64 0, .int .i64 0, .int .i64 0, .int .i64 0] 36))
  have HX := Lib.hid ((Blk.new w 36 #[.int .i64 p, .int .i64 q, .int .i64 t, .int .i64 v]).alloc (.cells #[.int .i64 0, .int .i64 0, .int .i64 0, .int .i64 0] 36))
  have HR := Lib.hid (Blk.new_ (w := w.alloc (.cells #[.int .i64 p, .int .i64 q, .int .i64 t, .int .i64 v] 36)) (g := w.heap.size + 1) (by simp) 36 #[.int .i64 0, .int .i64 0, .int .i64 0, .int .i64 0])
  clear h
  go_enter Tryz.func22, Tryz.ntmps22
  go_wp2_with fail
  go_at_call 55
  refine (lfind_spec A _ c p q t v l _ HL.out hc hn).mono ?_
  generalize (w.alloc (.cells #[.int .i64 p, .int .i64 q, .int .i64 t, .int .i64 v] 36)).alloc (.cells #[.int .i64 0, .int .i64 0, .int .i64 0, .int .i64 0] 36) = wB at HL HB HX HR ⊢
  intro e w1 hpost
  obtain ⟨S, a0, a1, a2, a3, rfl, hS, heq, hb⟩ := lsw_open hpost
  have hstS := fun (W : World) (p : Addr) => run_store Tryz.prog W p S .plain hS
  obtain ⟨nf, hnf⟩ : ∃ x, lsFrom l p q t v = x := ⟨_, rfl⟩
  obtain ⟨na, hna⟩ : ∃ x, lsAt l p q t v = x := ⟨_, rfl⟩
  obtain ⟨nt, hnt⟩ : ∃ x, lsTo l p q t v = x := ⟨_, rfl⟩
  obtain ⟨nl, hnl⟩ : ∃ x, lsLen l p q t v = x := ⟨_, rfl⟩
  rw [hnf, hna, hnt, hnl]
  have HNA := Lib.hid hna
  have HNL := Lib.hid hnl
  clear hpost hnf hna hnt hnl
  have HV := Lib.hid (Blk.new w1 92 #[S, .int .i64 a0, .int .i64 a1, .int .i64 a2, .int .i64 a3, .int .i64 nf, .int .i64 na, .int .i64 nt, .int .i64 nl])
  have hszw : w.heap.size + 1 < w1.heap.size := by have := HR.out.lt; have := hb.size; omega
  replace HL := Lib.hid ((HL.out.pure hb).alloc (.cells #[S, .int .i64 a0, .int .i64 a1, .int .i64 a2, .int .i64 a3, .int .i64 nf, .int .i64 na, .int .i64 nt, .int .i64 nl] 92))
  replace HX := Lib.hid ((HX.out.pure hb).alloc (.cells #[S, .int .i64 a0, .int .i64 a1, .int .i64 a2, .int .i64 a3, .int .i64 nf, .int .i64 na, .int .i64 nt, .int .i64 nl] 92))
  replace HR := Lib.hid ((HR.out.pure hb).alloc (.cells #[S, .int .i64 a0, .int .i64 a1, .int .i64 a2, .int .i64 a3, .int .i64 nf, .int .i64 na, .int .i64 nt, .int .i64 nl] 92))
  replace HB := Lib.hid ((pure_below HB.out hb).alloc (pure_below HB.out hb).size (.cells #[S, .int .i64 a0, .int .i64 a1, .int .i64 a2, .int .i64 a3, .int .i64 nf, .int .i64 na, .int .i64 nt, .int .i64 nl] 92))
  have HEQ := Lib.hid heq
  have hz2 : w1.heap.size < (w1.alloc (.cells #[S, .int .i64 a0, .int .i64 a1, .int .i64 a2, .int .i64 a3, .int .i64 nf, .int .i64 na, .int .i64 nt, .int .i64 nl] 92)).heap.size := HV.out.lt
  clear hb heq hS
  go_upto_region 2 with fail
  generalize w1.alloc (.cells #[S, .int .i64 a0, .int .i64 a1, .int .i64 a2, .int .i64 a3, .int .i64 nf, .int .i64 na, .int .i64 nt, .int .i64 nl] 92) = w2 at HV HL HX HR HB hz2 ⊢
  clear hstS
  by_cases he : lsE l p q t v = 0
  · obtain ⟨rfl, e0, e1, e2, e3⟩ := HEQ.out he
    obtain rfl : p = a0 := e0.symm
    obtain rfl : q = a1 := e1.symm
    obtain rfl : t = a2 := e2.symm
    obtain rfl : v = a3 := e3.symm
    have hok := ls_ok he
    have HLS := Lib.hid he
    rw [he]
    clear HEQ he
    by_cases hi0 : i < 0
    · have HE := Lib.hid (show atE l p q t v i = 6 by unfold atE; rw [if_neg (by rw [HLS.out]; decide), if_pos (.inl hi0)])
      have HN := Lib.hid (show (6 : Int) ≠ 0 by decide)
      have hd : decide (i < 0) = true := decide_eq_true hi0
      clear hi0 hok
      have r0 : _ = some (Value.int .i64 0) := HR.out.cell 0; have r1 : _ = some (Value.int .i64 0) := HR.out.cell 1; have r2 : _ = some (Value.int .i64 0) := HR.out.cell 2; have r3 : _ = some (Value.int .i64 0) := HR.out.cell 3; have f0 := HR.out.frozen 0; have f1 := HR.out.frozen 1; have f2 := HR.out.frozen 2; have f3 := HR.out.frozen 3
      go_wp2
      refine bodyPost_ret (v := .tuple #[.agg #[.int .i64 0, .int .i64 0, .int .i64 0, .int .i64 0], .int .i64 6]) (by simp [results, Tryz.results22, go_sem, r0, r1, r2, r3]) rfl ?_
      exact atw_no HE.out HN.out ((((HB.out.setCell (Nat.le_succ _) _).setCell (Nat.le_succ _) _).setCell (Nat.le_succ _) _).setCell (Nat.le_succ _) _)
    · have hd0 : decide (i < 0) = false := decide_eq_false hi0
      by_cases hin : (nl : Int) ≤ i
      · have HE := Lib.hid (show atE l p q t v i = 6 by unfold atE; rw [if_neg (by rw [HLS.out]; decide), HNL.out, if_pos (.inr hin)])
        have HN := Lib.hid (show (6 : Int) ≠ 0 by decide)
        have hd : decide ((nl : Int) ≤ i) = true := decide_eq_true hin
        clear hi0 hok hin
        have y8 : _ = some (Value.int .i64 nl) := HV.out.cell 8
        have r0 : _ = some (Value.int .i64 0) := HR.out.cell 0; have r1 : _ = some (Value.int .i64 0) := HR.out.cell 1; have r2 : _ = some (Value.int .i64 0) := HR.out.cell 2; have r3 : _ = some (Value.int .i64 0) := HR.out.cell 3; have f0 := HR.out.frozen 0; have f1 := HR.out.frozen 1; have f2 := HR.out.frozen 2; have f3 := HR.out.frozen 3
        go_wp2
        refine bodyPost_ret (v := .tuple #[.agg #[.int .i64 0, .int .i64 0, .int .i64 0, .int .i64 0], .int .i64 6]) (by simp [results, Tryz.results22, go_sem, r0, r1, r2, r3]) rfl ?_
        exact atw_no HE.out HN.out ((((HB.out.setCell (Nat.le_succ _) _).setCell (Nat.le_succ _) _).setCell (Nat.le_succ _) _).setCell (Nat.le_succ _) _)
      · obtain ⟨hL, hT, hW, hbd, _, _, _, _, _⟩ := hok
        have v1 := isW_iff.1 hW
        obtain ⟨V, rfl⟩ : ∃ V : Nat, v = V := ⟨v.toNat, by omega⟩
        obtain ⟨I, rfl⟩ : ∃ I : Nat, i = I := ⟨i.toNat, by omega⟩
        rw [HNA.out, HNL.out, Int.toNat_natCast] at hbd
        have hI : I < nl := by omega
        have hd : decide (nl ≤ I) = false := decide_eq_false (by omega)
        have hidx := shindex hT
        obtain ⟨a, F, tg, hrow⟩ := sh_get hL hT
        rw [hrow] at hidx
        have htt := isT_iff.1 hT
        have ht0 := htt.1
        have ht37 := htt.2
        obtain ⟨X, hX⟩ : ∃ X, I * V = X := ⟨_, rfl⟩
        obtain ⟨K, hK⟩ : ∃ K, nl * V = K := ⟨_, rfl⟩
        have hXK : X + V ≤ K := by
          rw [← hX, ← hK]
          have := Nat.mul_le_mul_right V (show I + 1 ≤ nl by omega)
          rw [Nat.succ_mul] at this
          exact this
        have hmulT : nl * (V + tgs t) = K + nl * tgs t := by rw [Nat.mul_add, hK]
        rw [hmulT] at hbd
        have HXX := Lib.hid hX
        have HKK := Lib.hid hK
        have hV8 : V ≤ 8 := by omega
        clear hi0 hd0 hrow hin hX hK hL hT hW v1 htt hmulT
        cases hTg : tagT t with
        | true =>
          rw [hTg] at hidx
          rw [show tgs t = 1 by unfold tgs; rw [hTg]; rfl, Nat.mul_one] at hbd
          replace hidx : ∀ W, (Instr.index 99 (.agg shS) (.int .i64 t)).run Tryz.prog W = .ok (.agg #[a, F, .func (.func 94) #[] #[], tg]) W := hidx
          have hfld := sh_field a F (.func (.func 94) #[] #[]) tg
          have HTG := Lib.hid hTg
          clear hTg
          have hlt : na + K + I < l.length := by omega
          obtain ⟨c0, hc0⟩ : ∃ c0, l[na + K + I] = c0 := ⟨_, rfl⟩
          have hget : l[na + K + I]? = some c0 := by rw [List.getElem?_eq_getElem hlt, hc0]
          have hB : tagB l p q t V I = c0 := by
            unfold tagB
            rw [HNA.out, HNL.out, Int.toNat_natCast, Int.toNat_natCast, HKK.out, List.getD_eq_getElem?_getD, hget]
            rfl
          have HTB := Lib.hid hB
          have HGET := Lib.hid hget
          have hIk : I ≤ nl := by omega
          have hIn : ¬ ((I : Int) < 0 ∨ (nl : Int) ≤ I) := by omega
          have HAE := Lib.hid (show atE l p q t V I = unE c0 by unfold atE; rw [if_neg (by rw [HLS.out]; decide), HNL.out, if_neg hIn, HTG.out, HTB.out]; rfl)
          clear hB hget hc0 hIn
          have x2 := cell2 HX.out; have y0 : _ = some (Value.slice A l.length c) := HV.out.cell 0; have y1 : _ = some (Value.int .i64 p) := HV.out.cell 1; have y2 : _ = some (Value.int .i64 q) := HV.out.cell 2; have y3 : _ = some (Value.int .i64 t) := HV.out.cell 3; have y4 : _ = some (Value.int .i64 V) := HV.out.cell 4; have y5 : _ = some (Value.int .i64 nf) := HV.out.cell 5; have y6 : _ = some (Value.int .i64 na) := HV.out.cell 6; have y7 : _ = some (Value.int .i64 nt) := HV.out.cell 7; have y8 : _ = some (Value.int .i64 nl) := HV.out.cell 8
          have hg1 : w.heap.size ≠ w.heap.size + 1 := by omega
          have hg2 : w1.heap.size ≠ w.heap.size + 1 := by omega
          by_cases hu : unE c0 = 0
          · have HU := Lib.hid hu
            have HTR := Lib.hid (show tagR na X V c0 = _ from if_pos hu)
            have HE := Lib.hid (HAE.out.trans hu)
            clear hu
            go_wp2_with fail
            go_region_held3 (fun w' => w'.cell? ⟨w.heap.size, 2, none⟩ = some (.int .i64 t) ∧ w'.cell? ⟨w1.heap.size, 0, none⟩ = some (.slice A l.length c) ∧ w'.cell? ⟨w1.heap.size, 1, none⟩ = some (.int .i64 p) ∧ w'.cell? ⟨w1.heap.size, 2, none⟩ = some (.int .i64 q) ∧ w'.cell? ⟨w1.heap.size, 3, none⟩ = some (.int .i64 t) ∧ w'.cell? ⟨w1.heap.size, 4, none⟩ = some (.int .i64 V) ∧ w'.cell? ⟨w1.heap.size, 5, none⟩ = some (.int .i64 nf) ∧ w'.cell? ⟨w1.heap.size, 6, none⟩ = some (.int .i64 na) ∧ w'.cell? ⟨w1.heap.size, 7, none⟩ = some (.int .i64 nt) ∧ w'.cell? ⟨w1.heap.size, 8, none⟩ = some (.int .i64 nl)) (first | with_reducible exact ⟨x2, y0, y1, y2, y3, y4, y5, y6, y7, y8⟩ | with_reducible exact ⟨ldrew x2, ldrew y0, ldrew y1, ldrew y2, ldrew y3, ldrew y4, ldrew y5, ldrew y6, ldrew y7, ldrew y8⟩ | with_reducible exact ⟨lset4 x2 hg1, lset4 y0 hg2, lset4 y1 hg2, lset4 y2 hg2, lset4 y3 hg2, lset4 y4 hg2, lset4 y5 hg2, lset4 y6 hg2, lset4 y7 hg2, lset4 y8 hg2⟩)
              (first
                | (go_at_call 56; (with_reducible refine (shapes_spec _).mono ?_); rintro e w5 ⟨rfl, hb5⟩; have HB5 := Lib.hid hb5; replace HV := Lib.hid (HV.out.drew.pure hb5); replace HX := Lib.hid (HX.out.drew.pure hb5); replace HR := Lib.hid (HR.out.drew.pure hb5); replace HL := Lib.hid ((isl_drew HL.out).pure hb5); clear hb5 x2 y0 y1 y2 y3 y4 y5 y6 y7 y8; have x2 := cell2 HX.out; have y0 : _ = some (Value.slice A l.length c) := HV.out.cell 0; have y1 : _ = some (Value.int .i64 p) := HV.out.cell 1; have y2 : _ = some (Value.int .i64 q) := HV.out.cell 2; have y3 : _ = some (Value.int .i64 t) := HV.out.cell 3; have y4 : _ = some (Value.int .i64 V) := HV.out.cell 4; have y5 : _ = some (Value.int .i64 nf) := HV.out.cell 5; have y6 : _ = some (Value.int .i64 na) := HV.out.cell 6; have y7 : _ = some (Value.int .i64 nt) := HV.out.cell 7; have y8 : _ = some (Value.int .i64 nl) := HV.out.cell 8)
                | (go_at_call 94; ((with_reducible refine (tagged_spec A _ c p q t V nf na nt nl I X K l c0 _ HL.out hn HXX.out HKK.out hIk hlt HGET.out).mono ?_); rw [HTR.out, HU.out]); rintro e w6 ⟨rfl, hb6⟩; have HB6 := Lib.hid hb6; replace HV := Lib.hid (HV.out.pure hb6); replace HX := Lib.hid (HX.out.pure hb6); replace HR := Lib.hid (HR.out.pure hb6); clear hb6 x2 y0 y1 y2 y3 y4 y5 y6 y7 y8; have x2 := cell2 HX.out; have y0 : _ = some (Value.slice A l.length c) := HV.out.cell 0; have y1 : _ = some (Value.int .i64 p) := HV.out.cell 1; have y2 : _ = some (Value.int .i64 q) := HV.out.cell 2; have y3 : _ = some (Value.int .i64 t) := HV.out.cell 3; have y4 : _ = some (Value.int .i64 V) := HV.out.cell 4; have y5 : _ = some (Value.int .i64 nf) := HV.out.cell 5; have y6 : _ = some (Value.int .i64 na) := HV.out.cell 6; have y7 : _ = some (Value.int .i64 nt) := HV.out.cell 7; have y8 : _ = some (Value.int .i64 nl) := HV.out.cell 8; have r0 : _ = some (Value.int .i64 0) := HR.out.cell 0; have r1 : _ = some (Value.int .i64 0) := HR.out.cell 1; have r2 : _ = some (Value.int .i64 0) := HR.out.cell 2; have r3 : _ = some (Value.int .i64 0) := HR.out.cell 3; have f0 := HR.out.frozen 0; have f1 := HR.out.frozen 1; have f2 := HR.out.frozen 2; have f3 := HR.out.frozen 3))
            go_wp2
            refine bodyPost_ret (v := .tuple #[.agg #[.int .i64 ((na : Int) + X), .int .i64 V, .int .i64 (unT c0), .int .i64 (unW c0)], .int .i64 0]) (by simp [results, Tryz.results22, go_sem, r0, r1, r2, r3]) rfl ?_
            have HBQ := Lib.hid (pure_trans (pure_below HB.out.drew HB5.out) HB6.out)
            exact atw_yes HE.out (by rw [HNA.out, Int.toNat_natCast, Int.toNat_natCast, HXX.out]) rfl (by rw [HTG.out]; exact (if_pos rfl).trans (by rw [HTB.out])) (by rw [HTG.out]; exact (if_pos rfl).trans (by rw [HTB.out])) (below_set4 _ HBQ.out (Nat.le_succ _) _ _ _ _)
          · have HU := Lib.hid hu
            have HTR := Lib.hid (show tagR na X V c0 = _ from if_neg hu)
            have HE := HAE
            clear hu
            go_wp2_with fail
            go_region_held3 (fun w' => w'.cell? ⟨w.heap.size, 2, none⟩ = some (.int .i64 t) ∧ w'.cell? ⟨w1.heap.size, 0, none⟩ = some (.slice A l.length c) ∧ w'.cell? ⟨w1.heap.size, 1, none⟩ = some (.int .i64 p) ∧ w'.cell? ⟨w1.heap.size, 2, none⟩ = some (.int .i64 q) ∧ w'.cell? ⟨w1.heap.size, 3, none⟩ = some (.int .i64 t) ∧ w'.cell? ⟨w1.heap.size, 4, none⟩ = some (.int .i64 V) ∧ w'.cell? ⟨w1.heap.size, 5, none⟩ = some (.int .i64 nf) ∧ w'.cell? ⟨w1.heap.size, 6, none⟩ = some (.int .i64 na) ∧ w'.cell? ⟨w1.heap.size, 7, none⟩ = some (.int .i64 nt) ∧ w'.cell? ⟨w1.heap.size, 8, none⟩ = some (.int .i64 nl)) (first | with_reducible exact ⟨x2, y0, y1, y2, y3, y4, y5, y6, y7, y8⟩ | with_reducible exact ⟨ldrew x2, ldrew y0, ldrew y1, ldrew y2, ldrew y3, ldrew y4, ldrew y5, ldrew y6, ldrew y7, ldrew y8⟩ | with_reducible exact ⟨lset4 x2 hg1, lset4 y0 hg2, lset4 y1 hg2, lset4 y2 hg2, lset4 y3 hg2, lset4 y4 hg2, lset4 y5 hg2, lset4 y6 hg2, lset4 y7 hg2, lset4 y8 hg2⟩)
              (first
                | (go_at_call 56; (with_reducible refine (shapes_spec _).mono ?_); rintro e w5 ⟨rfl, hb5⟩; have HB5 := Lib.hid hb5; replace HV := Lib.hid (HV.out.drew.pure hb5); replace HX := Lib.hid (HX.out.drew.pure hb5); replace HR := Lib.hid (HR.out.drew.pure hb5); replace HL := Lib.hid ((isl_drew HL.out).pure hb5); clear hb5 x2 y0 y1 y2 y3 y4 y5 y6 y7 y8; have x2 := cell2 HX.out; have y0 : _ = some (Value.slice A l.length c) := HV.out.cell 0; have y1 : _ = some (Value.int .i64 p) := HV.out.cell 1; have y2 : _ = some (Value.int .i64 q) := HV.out.cell 2; have y3 : _ = some (Value.int .i64 t) := HV.out.cell 3; have y4 : _ = some (Value.int .i64 V) := HV.out.cell 4; have y5 : _ = some (Value.int .i64 nf) := HV.out.cell 5; have y6 : _ = some (Value.int .i64 na) := HV.out.cell 6; have y7 : _ = some (Value.int .i64 nt) := HV.out.cell 7; have y8 : _ = some (Value.int .i64 nl) := HV.out.cell 8)
                | (go_at_call 94; ((with_reducible refine (tagged_spec A _ c p q t V nf na nt nl I X K l c0 _ HL.out hn HXX.out HKK.out hIk hlt HGET.out).mono ?_); rw [HTR.out]); rintro e w6 ⟨rfl, hb6⟩; have HB6 := Lib.hid hb6; replace HV := Lib.hid (HV.out.pure hb6); replace HX := Lib.hid (HX.out.pure hb6); replace HR := Lib.hid (HR.out.pure hb6); clear hb6 x2 y0 y1 y2 y3 y4 y5 y6 y7 y8; have x2 := cell2 HX.out; have y0 : _ = some (Value.slice A l.length c) := HV.out.cell 0; have y1 : _ = some (Value.int .i64 p) := HV.out.cell 1; have y2 : _ = some (Value.int .i64 q) := HV.out.cell 2; have y3 : _ = some (Value.int .i64 t) := HV.out.cell 3; have y4 : _ = some (Value.int .i64 V) := HV.out.cell 4; have y5 : _ = some (Value.int .i64 nf) := HV.out.cell 5; have y6 : _ = some (Value.int .i64 na) := HV.out.cell 6; have y7 : _ = some (Value.int .i64 nt) := HV.out.cell 7; have y8 : _ = some (Value.int .i64 nl) := HV.out.cell 8; have r0 : _ = some (Value.int .i64 0) := HR.out.cell 0; have r1 : _ = some (Value.int .i64 0) := HR.out.cell 1; have r2 : _ = some (Value.int .i64 0) := HR.out.cell 2; have r3 : _ = some (Value.int .i64 0) := HR.out.cell 3; have f0 := HR.out.frozen 0; have f1 := HR.out.frozen 1; have f2 := HR.out.frozen 2; have f3 := HR.out.frozen 3))
            go_wp2
            refine bodyPost_ret (v := .tuple #[.agg #[.int .i64 0, .int .i64 0, .int .i64 0, .int .i64 0], .int .i64 (unE c0)]) (by simp [results, Tryz.results22, go_sem, r0, r1, r2, r3]) rfl ?_
            have HBQ := Lib.hid (pure_trans (pure_below HB.out.drew HB5.out) HB6.out)
            exact atw_no HE.out HU.out (below_set4 _ HBQ.out (Nat.le_succ _) _ _ _ _)
        | false =>
          rw [hTg] at hidx
          replace hidx : ∀ W, (Instr.index 99 (.agg shS) (.int .i64 t)).run Tryz.prog W = .ok (.agg #[a, F, .func (.func 92) #[] #[], tg]) W := hidx
          have hfld := sh_field a F (.func (.func 92) #[] #[]) tg
          have HTG := Lib.hid hTg
          clear hTg
          have HE := Lib.hid (show atE l p q t V I = 0 by unfold atE; rw [if_neg (by rw [HLS.out]; decide), HNL.out, if_neg (by omega), HTG.out]; rfl)
          have ha40 : na + X ≤ 1099511627776 := by omega
          have x2 := cell2 HX.out; have y0 : _ = some (Value.slice A l.length c) := HV.out.cell 0; have y1 : _ = some (Value.int .i64 p) := HV.out.cell 1; have y2 : _ = some (Value.int .i64 q) := HV.out.cell 2; have y3 : _ = some (Value.int .i64 t) := HV.out.cell 3; have y4 : _ = some (Value.int .i64 V) := HV.out.cell 4; have y5 : _ = some (Value.int .i64 nf) := HV.out.cell 5; have y6 : _ = some (Value.int .i64 na) := HV.out.cell 6; have y7 : _ = some (Value.int .i64 nt) := HV.out.cell 7; have y8 : _ = some (Value.int .i64 nl) := HV.out.cell 8
          have hg1 : w.heap.size ≠ w.heap.size + 1 := by omega
          have hg2 : w1.heap.size ≠ w.heap.size + 1 := by omega
          go_wp2_with fail
          go_region_held3 (fun w' => w'.cell? ⟨w.heap.size, 2, none⟩ = some (.int .i64 t) ∧ w'.cell? ⟨w1.heap.size, 0, none⟩ = some (.slice A l.length c) ∧ w'.cell? ⟨w1.heap.size, 1, none⟩ = some (.int .i64 p) ∧ w'.cell? ⟨w1.heap.size, 2, none⟩ = some (.int .i64 q) ∧ w'.cell? ⟨w1.heap.size, 3, none⟩ = some (.int .i64 t) ∧ w'.cell? ⟨w1.heap.size, 4, none⟩ = some (.int .i64 V) ∧ w'.cell? ⟨w1.heap.size, 5, none⟩ = some (.int .i64 nf) ∧ w'.cell? ⟨w1.heap.size, 6, none⟩ = some (.int .i64 na) ∧ w'.cell? ⟨w1.heap.size, 7, none⟩ = some (.int .i64 nt) ∧ w'.cell? ⟨w1.heap.size, 8, none⟩ = some (.int .i64 nl)) (first | with_reducible exact ⟨x2, y0, y1, y2, y3, y4, y5, y6, y7, y8⟩ | with_reducible exact ⟨ldrew x2, ldrew y0, ldrew y1, ldrew y2, ldrew y3, ldrew y4, ldrew y5, ldrew y6, ldrew y7, ldrew y8⟩ | with_reducible exact ⟨lset4 x2 hg1, lset4 y0 hg2, lset4 y1 hg2, lset4 y2 hg2, lset4 y3 hg2, lset4 y4 hg2, lset4 y5 hg2, lset4 y6 hg2, lset4 y7 hg2, lset4 y8 hg2⟩)
            (first
              | (go_at_call 56; (with_reducible refine (shapes_spec _).mono ?_); rintro e w5 ⟨rfl, hb5⟩; have HB5 := Lib.hid hb5; replace HV := Lib.hid (HV.out.drew.pure hb5); replace HX := Lib.hid (HX.out.drew.pure hb5); replace HR := Lib.hid (HR.out.drew.pure hb5); replace HL := Lib.hid ((isl_drew HL.out).pure hb5); clear hb5 x2 y0 y1 y2 y3 y4 y5 y6 y7 y8; have x2 := cell2 HX.out; have y0 : _ = some (Value.slice A l.length c) := HV.out.cell 0; have y1 : _ = some (Value.int .i64 p) := HV.out.cell 1; have y2 : _ = some (Value.int .i64 q) := HV.out.cell 2; have y3 : _ = some (Value.int .i64 t) := HV.out.cell 3; have y4 : _ = some (Value.int .i64 V) := HV.out.cell 4; have y5 : _ = some (Value.int .i64 nf) := HV.out.cell 5; have y6 : _ = some (Value.int .i64 na) := HV.out.cell 6; have y7 : _ = some (Value.int .i64 nt) := HV.out.cell 7; have y8 : _ = some (Value.int .i64 nl) := HV.out.cell 8)
              | (go_at_call 92; (with_reducible refine (ltyped_spec A _ c p q t V nf na nt nl I X _ HXX.out ha40).mono ?_); rintro e w6 ⟨rfl, hb6⟩; have HB6 := Lib.hid hb6; replace HV := Lib.hid (HV.out.pure hb6); replace HX := Lib.hid (HX.out.pure hb6); replace HR := Lib.hid (HR.out.pure hb6); clear hb6 x2 y0 y1 y2 y3 y4 y5 y6 y7 y8; have x2 := cell2 HX.out; have y0 : _ = some (Value.slice A l.length c) := HV.out.cell 0; have y1 : _ = some (Value.int .i64 p) := HV.out.cell 1; have y2 : _ = some (Value.int .i64 q) := HV.out.cell 2; have y3 : _ = some (Value.int .i64 t) := HV.out.cell 3; have y4 : _ = some (Value.int .i64 V) := HV.out.cell 4; have y5 : _ = some (Value.int .i64 nf) := HV.out.cell 5; have y6 : _ = some (Value.int .i64 na) := HV.out.cell 6; have y7 : _ = some (Value.int .i64 nt) := HV.out.cell 7; have y8 : _ = some (Value.int .i64 nl) := HV.out.cell 8; have r0 : _ = some (Value.int .i64 0) := HR.out.cell 0; have r1 : _ = some (Value.int .i64 0) := HR.out.cell 1; have r2 : _ = some (Value.int .i64 0) := HR.out.cell 2; have r3 : _ = some (Value.int .i64 0) := HR.out.cell 3; have f0 := HR.out.frozen 0; have f1 := HR.out.frozen 1; have f2 := HR.out.frozen 2; have f3 := HR.out.frozen 3))
          go_wp2
          refine bodyPost_ret (v := .tuple #[.agg #[.int .i64 ((na : Int) + X), .int .i64 V, .int .i64 (elemT t), .int .i64 V], .int .i64 0]) (by simp [results, Tryz.results22, go_sem, r0, r1, r2, r3]) rfl ?_
          have HBQ := Lib.hid (pure_trans (pure_below HB.out.drew HB5.out) HB6.out)
          exact atw_yes HE.out (by rw [HNA.out, Int.toNat_natCast, Int.toNat_natCast, HXX.out]) rfl (by rw [HTG.out]; exact if_neg (by decide)) (by rw [HTG.out]; exact if_neg (by decide)) (below_set4 _ HBQ.out (Nat.le_succ _) _ _ _ _)
  · have HE := Lib.hid (show atE l p q t v i = lsE l p q t v from if_pos he)
    have HN := Lib.hid he
    have hne : (lsE l p q t v != 0) = true := by simpa using he
    clear HEQ he
    have r0 : _ = some (Value.int .i64 0) := HR.out.cell 0; have r1 : _ = some (Value.int .i64 0) := HR.out.cell 1; have r2 : _ = some (Value.int .i64 0) := HR.out.cell 2; have r3 : _ = some (Value.int .i64 0) := HR.out.cell 3; have f0 := HR.out.frozen 0; have f1 := HR.out.frozen 1; have f2 := HR.out.frozen 2; have f3 := HR.out.frozen 3
    go_wp2
    refine bodyPost_ret (v := .tuple #[.agg #[.int .i64 0, .int .i64 0, .int .i64 0, .int .i64 0], .int .i64 (lsE l p q t v)]) (by simp [results, Tryz.results22, go_sem, r0, r1, r2, r3]) rfl ?_
    exact atw_no HE.out HN.out ((((HB.out.setCell (Nat.le_succ _) _).setCell (Nat.le_succ _) _).setCell (Nat.le_succ _) _).setCell (Nat.le_succ _) _)
end Go.Proofs.YtfoifdoaleaekaaGreat

namespace Go.Proofs.YtfoifdoaleaekaaGreat
open Go.RowKit Go.Acc
def unb (vs : Array Value) : List UInt8 := vs.toList.map fun v => match v with | .int _ z => UInt8.ofNat z.toNat | _ => 0
theorem isb_vs (w : World) (vs : Array Value) (n : Nat) (hn : vs.size = n) (h : vs.toList = (unb vs).flatMap bc) : IsB (w.alloc (.cells vs 5)) (some ⟨w.heap.size, 0, none⟩) n (unb vs) :=
  ⟨by rw [← hn]; simp [unb], fun j u hj => ⟨_, _, rfl, by rw [(Blk.new w 5 vs).cell, Nat.zero_add, ← Array.getElem?_toList, h]; exact hj⟩⟩
theorem root_spec2 (A : Option Addr) (n c : Nat) (l : List UInt8) (w : World) (a b d e f : Int) (hl : IsB w A n l) (hn : n ≤ 9223372036854775807) (h : rootR l = (a, b, d, e)) (h' : rootE l = f) :
    Calls Tryz.prog 13 #[.slice A n c] w fun e' w' => e' = .returned (.tuple #[.agg #[.int .i64 a, .int .i64 b, .int .i64 d, .int .i64 e], .int .i64 f]) ∧ Below w.heap.size w w' := by
  have := root_spec A n c l w hl hn
  rw [h, h'] at this
  exact this
end Go.Proofs.YtfoifdoaleaekaaGreat

namespace Go.Proofs.YtfoifdoaleaekaaGreat
open Go.RowKit Go.Acc
theorem lslen_le (l : List UInt8) (p q t v : Int) : lsLen l p q t v ≤ l.length := by
  by_cases h : lsE l p q t v = 0
  · obtain ⟨_, _, hw, hb, _⟩ := ls_ok h
    have := isW_iff.1 hw
    have : lsLen l p q t v ≤ lsLen l p q t v * (v.toNat + tgs t) := Nat.le_mul_of_pos_right _ (by omega)
    omega
  · rw [(ls_zero h).2.2.2]; exact Nat.zero_le _
theorem lat_is (A : Option Addr) (n c : Nat) (p q t v i a b d g er : Int) (l : List UInt8) (w : World) (h : IsB w A n l) (hc : n ≤ c) (hn : n ≤ 1099511627776) (h1 : atP l p q t v i = a) (h2 : atQ l p q t v i = b) (h3 : atT l p q t v i = d) (h4 : atV l p q t v i = g) (h5 : atE l p q t v i = er) :
    Calls Tryz.prog 22 #[.slice A n c, .agg #[.int .i64 p, .int .i64 q, .int .i64 t, .int .i64 v], .int .i64 i] w fun e w' => e = .returned (.tuple #[.agg #[.int .i64 a, .int .i64 b, .int .i64 d, .int .i64 g], .int .i64 er]) ∧ Below w.heap.size w w' := by
  subst h1 h2 h3 h4 h5
  exact lat_spec A n c p q t v i l w h hc hn
end Go.Proofs.YtfoifdoaleaekaaGreat

namespace Go.Proofs.YtfoifdoaleaekaaGreat
open Go.RowKit Go.Acc
theorem ls_within {l : List UInt8} {p q t : Int} {V : Nat} (h : lsE l p q t V = 0) :
    lsFrom l p q t V ≤ lsAt l p q t V ∧ lsAt l p q t V + (lsLen l p q t V * V + lsLen l p q t V * tgs t) = lsTo l p q t V ∧ lsTo l p q t V ≤ l.length ∧ (V = 1 ∨ V = 2 ∨ V = 4 ∨ V = 8) ∧ (lsAt l p q t V : Int) % V = 0 ∧ isL t = true := by
  obtain ⟨h1, _, h2, h3, _, _, _, _, h4⟩ := ls_ok h
  have hw := isW_iff.1 h2
  rw [Int.toNat_natCast] at h3
  have hT : lsTo l p q t V = lsAt l p q t V + lsLen l p q t V * (V + tgs t) := by
    unfold lsTo lsAt lsLen
    rw [if_pos h, if_pos h, if_pos h]
    unfold lsX
    rw [Int.toNat_natCast]
  have hF : lsFrom l p q t V ≤ lsAt l p q t V := by
    unfold lsFrom lsAt
    rw [if_pos h, if_pos h]
    exact Nat.sub_le _ _
  exact ⟨hF, by rw [hT, Nat.mul_add], by rw [hT]; exact h3, by omega, h4, h1⟩
end Go.Proofs.YtfoifdoaleaekaaGreat

namespace Go.Proofs.YtfoifdoaleaekaaGreat
open Go.Acc
structure LstIn (L : List UInt8) (s : Nat) (vs : List Bv) (v : Bv) : Prop where
  w : isW (v.w : Int) = true
  typ : isL (v.t : Int) = true
  md : (s + v.n) % v.w = 0
  ah : aheadT (v.t : Int) * v.w ≤ s + v.n
  n1 : 0 < manyT (v.t : Int) → manyT (v.t : Int) = (vs.length : Int)
  n2 : ¬ 0 < manyT (v.t : Int) → loadU L (((s + v.n : Nat) : Int) - (v.w : Int)) (v.w : Int) = vs.length
  sp : s + v.n + vs.length * (v.w + tgs (v.t : Int)) ≤ L.length
  tags : tagT (v.t : Int) = true → At L (s + v.n + vs.length * v.w) (vs.map (bTag v.w))
  el : ∀ (i : Nat) y, vs[i]? = some y → At L (s + v.n + i * v.w) (leBytes v.w (elemN v.w (v.n + i * v.w) y)) ∧ Elem v.w (v.n + i * v.w) y
theorem mod_align {w n : Nat} (hw : isW (w : Int) = true) (b : List UInt8) (k : Nat) (h : n = (alignB w b).length + k * w) : n % w = 0 := by
  have := (align_len hw b).2.1
  rw [h, Nat.add_mul_mod_self_right]
  exact this
theorem VecAt.mod {l : List UInt8} {t : Nat} {len tags : Bool} {vs : List Bv} {v : Bv} (h : VecAt l t len tags vs v) : v.n % v.w = 0 := by
  have hw := h.width.2
  obtain ⟨b, m, rfl, rfl, _⟩ := h
  obtain ⟨w, hwd⟩ : ∃ w, fitAll b.length (if len = true then 1 else 0) none vs = w := ⟨_, rfl⟩
  simp only [bVec, hwd] at hw ⊢
  refine mod_align hw b (if len = true then 1 else 0) ?_
  rw [List.length_append]
  cases len <;> simp [leBytes_length]
theorem MapAt.mod {l : List UInt8} {k : Bv} {vs : List Bv} {v : Bv} (h : MapAt l k vs v) : v.n % v.w = 0 := by
  have hw := h.width.2
  obtain ⟨b, m, rfl, rfl, _⟩ := h
  obtain ⟨w, hwd⟩ : ∃ w, fitAll b.length 3 (some k) vs = w := ⟨_, rfl⟩
  simp only [mapB, hwd] at hw ⊢
  refine mod_align hw b 3 ?_
  simp only [List.length_append, leBytes_length]
  omega
theorem mod_ahead {s n w : Nat} (hw : isW (w : Int) = true) (hs : s % 8 = 0) (h : n % w = 0) : (s + n) % w = 0 := by
  rcases isW_nat.1 hw with rfl | rfl | rfl | rfl <;> omega
theorem load_len {L : List UInt8} {a w u : Nat} (hw : isW (w : Int) = true) (h : At L a (leBytes w u)) (hu : u < 2 ^ (8 * w)) : loadU L (a : Int) (w : Int) = u := by
  rw [h.load hw, leVal_leBytes, Nat.mod_eq_of_lt hu]
theorem ty_facts : ∀ T ∈ [9, 10, 11, 12, 14, 36, 16, 17, 19, 20, 22, 23], isL (T : Nat) = true ∧ inlineT (T : Nat) = false := by decide
theorem ty_free : ∀ T ∈ [10, 11, 12, 14, 36], manyT ((T : Nat) : Int) = 0 ∧ aheadT ((T : Nat) : Int) = 1 := by decide
theorem ty_typed : ∀ T ∈ [11, 12, 14, 36], tgs ((T : Nat) : Int) = 0 ∧ tagT ((T : Nat) : Int) = false := by decide
theorem vec_list {l : List UInt8} {T : Nat} {tags : Bool} {vs : List Bv} {v : Bv} (h : VecAt l T true tags vs v) (hb : l.length < 2 ^ 32) (x : List UInt8) (hx : x.length % 8 = 0) (hT : (T = 10 ∧ tags = true) ∨ ((T = 11 ∨ T = 12 ∨ T = 14 ∨ T = 36) ∧ tags = false)) :
    LstIn (x ++ l) x.length vs v := by
  obtain ⟨ht, hw⟩ := h.width
  have hm := h.mod
  have hf := h.facts hb x
  obtain ⟨c, hc, ha, hl⟩ := hf.len rfl
  have h5 : T ∈ [10, 11, 12, 14, 36] := by simp; omega
  obtain ⟨m1, m2⟩ := ty_free T h5
  have hle : vs.length * v.w + vs.length * tgs (v.t : Int) ≤ vs.length * v.w + (if tags = true then vs.length else 0) := by
    rw [ht]
    rcases hT with ⟨rfl, rfl⟩ | ⟨hT, rfl⟩
    · have e : tgs ((10 : Nat) : Int) = 1 := by decide
      rw [e]
      simp
    · have := (ty_typed T (by simp; omega)).1
      rw [this]
      simp
  refine ⟨hw, ?_, mod_ahead hw hx hm, ?_, ?_, ?_, ?_, ?_, ?_⟩
  · rw [ht]
    exact (ty_facts T (by simp; omega)).1
  · rw [ht, m2, hc]
    omega
  · rw [ht, m1]
    intro h0
    omega
  · intro _
    have e : ((x.length + v.n : Nat) : Int) - (v.w : Int) = ((x.length + c : Nat) : Int) := by omega
    rw [e]
    exact load_len hw ha hl
  · rw [Nat.mul_add]
    have h1 := hf.le
    cases tags with
    | false => simp only [Bool.false_eq_true, if_false] at hle; omega
    | true =>
      have h2 := (hf.tags rfl).le
      rw [List.length_map] at h2
      simp only [if_true] at hle
      omega
  · rw [ht]
    rcases hT with ⟨rfl, rfl⟩ | ⟨hT, rfl⟩
    · intro _
      have := hf.tags rfl
      rwa [← Nat.add_assoc] at this
    · rw [(ty_typed T (by simp; omega)).2]
      intro h
      cases h
  · intro i y hy
    obtain ⟨h1, h2⟩ := hf.el i y hy
    rw [← Nat.add_assoc] at h1
    exact ⟨h1, h2⟩
theorem map_list {l : List UInt8} {k : Bv} {vs : List Bv} {v : Bv} (h : MapAt l k vs v) (hk : inl k.t = false) (hb : l.length < 2 ^ 32) (x : List UInt8) (hx : x.length % 8 = 0) : LstIn (x ++ l) x.length vs v := by
  obtain ⟨ht, hw⟩ := h.width
  have hm := h.mod
  have hf := h.facts hk hb x
  obtain ⟨c, hc, _, _, _, _, ha, hl⟩ := hf.head
  have m2 : aheadT (9 : Int) = 3 := by decide
  have m1 : manyT (9 : Int) = 0 := by decide
  have m3 : tgs (9 : Int) = 1 := by decide
  refine ⟨hw, ?_, mod_ahead hw hx hm, ?_, ?_, ?_, ?_, ?_, ?_⟩
  · rw [ht]
    decide
  · rw [ht]
    show aheadT (9 : Int) * v.w ≤ _
    rw [m2, hc]
    omega
  · rw [ht]
    show 0 < manyT (9 : Int) → manyT (9 : Int) = _
    rw [m1]
    intro h0
    omega
  · intro _
    have e : ((x.length + v.n : Nat) : Int) - (v.w : Int) = ((x.length + (c + 2 * v.w) : Nat) : Int) := by omega
    rw [e]
    exact load_len hw ha hl
  · rw [ht]
    show x.length + v.n + vs.length * (v.w + tgs (9 : Int)) ≤ _
    rw [m3, Nat.mul_add]
    have h1 := hf.le
    have h2 := hf.tags.le
    rw [List.length_map] at h2
    omega
  · intro _
    have := hf.tags
    rwa [← Nat.add_assoc] at this
  · intro i y hy
    obtain ⟨h1, h2⟩ := hf.el i y hy
    rw [← Nat.add_assoc] at h1
    exact ⟨h1, h2⟩
structure Leads (L : List UInt8) (s : Nat) (v : Bv) (p q : Int) : Prop where
  may : mayE L.length p q (v.t : Int) (v.w : Int) = 0
  tgE : tgtE L p q (v.t : Int) (v.w : Int) = 0
  tg : tgt L p q (v.t : Int) (v.w : Int) = ((s + v.n : Nat) : Int)
theorem lst_len {L : List UInt8} {s : Nat} {vs : List Bv} {v : Bv} {p q : Int} (h : LstIn L s vs v) (r : Leads L s v p q) :
    lsE L p q (v.t : Int) (v.w : Int) = 0 ∧ lsLen L p q (v.t : Int) (v.w : Int) = vs.length ∧ lsAt L p q (v.t : Int) (v.w : Int) = s + v.n := by
  have hN : lsN L p q (v.t : Int) (v.w : Int) = vs.length := by
    unfold lsN
    by_cases hm : 0 < manyT (v.t : Int)
    · rw [if_pos hm, h.n1 hm]
      rfl
    · rw [if_neg hm, r.tg]
      exact h.n2 hm
  have hE : lsE L p q (v.t : Int) (v.w : Int) = 0 := by
    unfold lsE
    rw [r.may, r.tgE, r.tg, h.typ, hN]
    have h1 := h.md
    have h2 := h.ah
    have h3 := h.sp
    unfold lsX
    rw [if_neg (by simp), if_neg (by simp), if_neg (by simp), if_neg (by omega), Int.toNat_natCast, Int.toNat_natCast, if_neg (by omega), if_neg (by omega)]
  refine ⟨hE, ?_, ?_⟩
  · unfold lsLen
    rw [if_pos hE, hN]
  · unfold lsAt
    rw [if_pos hE, r.tg]
    rfl
theorem lst_at {L : List UInt8} {s : Nat} {vs : List Bv} {v : Bv} {p q : Int} (h : LstIn L s vs v) (r : Leads L s v p q) {i : Nat} {y : Bv} (hy : vs[i]? = some y) (hl : tagT (v.t : Int) = true → legalT (y.t : Int) = true ∧ isW (y.w : Int) = true) :
    atE L p q (v.t : Int) (v.w : Int) (i : Int) = 0 ∧ atP L p q (v.t : Int) (v.w : Int) (i : Int) = ((s + v.n + i * v.w : Nat) : Int) ∧ atQ L p q (v.t : Int) (v.w : Int) (i : Int) = (v.w : Int) ∧
      atT L p q (v.t : Int) (v.w : Int) (i : Int) = (if tagT (v.t : Int) = true then (y.t : Int) else elemT (v.t : Int)) ∧ atV L p q (v.t : Int) (v.w : Int) (i : Int) = (if tagT (v.t : Int) = true then (ownW v.w y : Int) else (v.w : Int)) := by
  obtain ⟨e1, e2, e3⟩ := lst_len h r
  have hi := (List.getElem?_eq_some_iff.1 hy).1
  have htag : tagT (v.t : Int) = true → tagB L p q (v.t : Int) (v.w : Int) (i : Int) = bTag v.w y := by
    intro ht
    have ha := h.tags ht
    unfold tagB
    rw [e3, e2, Int.toNat_natCast, Int.toNat_natCast, List.getD_eq_getElem?_getD, ha.get (by simpa using hi), List.getElem?_map, hy]
    rfl
  have hun : tagT (v.t : Int) = true → unT (bTag v.w y) = (y.t : Int) ∧ unW (bTag v.w y) = (ownW v.w y : Int) ∧ unE (bTag v.w y) = 0 := by
    intro ht
    obtain ⟨g1, g2⟩ := hl ht
    have how : isW (ownW v.w y : Int) = true := by
      unfold ownW
      split
      · exact h.w
      · exact g2
    exact tag_is y.t (ownW v.w y) g1 how
  have hE : atE L p q (v.t : Int) (v.w : Int) (i : Int) = 0 := by
    unfold atE
    rw [e1, e2, if_neg (by simp), if_neg (by omega)]
    by_cases ht : tagT (v.t : Int) = true
    · rw [if_pos ht, htag ht]
      exact (hun ht).2.2
    · rw [if_neg ht]
  refine ⟨hE, ?_, ?_, ?_, ?_⟩
  · unfold atP
    rw [if_pos hE, e3, Int.toNat_natCast, Int.toNat_natCast]
    omega
  · unfold atQ
    rw [if_pos hE]
  · unfold atT
    rw [if_pos hE]
    by_cases ht : tagT (v.t : Int) = true
    · rw [if_pos ht, if_pos ht, htag ht]
      exact (hun ht).1
    · rw [if_neg ht, if_neg ht]
  · unfold atV
    rw [if_pos hE]
    by_cases ht : tagT (v.t : Int) = true
    · rw [if_pos ht, if_pos ht, htag ht]
      exact (hun ht).2.1
    · rw [if_neg ht, if_neg ht]
end Go.Proofs.YtfoifdoaleaekaaGreat
