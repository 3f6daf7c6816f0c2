/-
  Package list's reference: At.
  Package ref: the examples of the chapter.
  Package list: the examples of the chapter.
  Package list: the examples of the chapter, all together.
  The arguments of a law, opened to cells: integers, slices of structs, slices of slices; and what a law's last step wants.
  Package le: reading the arguments of the properties.
-/
import Derived.Test.YtejalfjeihlpeaaGreatQ14
import Derived.Lib.SmallJoins
namespace Go.Proofs.YtejalfjeihlpeaaGreat
open Go.RowKit Go.Acc
set_option maxRecDepth 100000 in
set_option maxHeartbeats 1000000 in
theorem rat_spec (A : Option Addr) (n c : Nat) (p q t v i : Int) (l : List UInt8) (w : World) (h : IsB w A n l) (hn : n ≤ 1099511627776) :
    Calls Tryz.prog 80 #[.slice A n c, .agg #[.int .i64 p, .int .i64 q, .int .i64 t, .int .i64 v], .int .i64 i] w (AtW w l p q t v i) := by
  have hlen := h.1
  subst hlen
  have HL := Lib.hid ((h.alloc (.cells #[.int .i64 p, .int .i64 q, .int .i64 t, .int .i64 v] 48)).alloc (.cells #[.int .i64 0, .int .i64 0, .int .i64 0, .int .i64 0] 48))
  have HB := Lib.hid (((Below.refl w.heap.size w).alloc (Nat.le_refl _) (.cells #[.int .i64 p, .int .i64 q, .int .i64 t, .int .i64 v] 48)).alloc (by simp) (.cells #[.int .i64 0, .int .i64 0, .int .i64 0, .int .i64 0] 48))
  have HX := Lib.hid ((Blk.new w 48 #[.int .i64 p, .int .i64 q, .int .i64 t, .int .i64 v]).alloc (.cells #[.int .i64 0, .int .i64 0, .int .i64 0, .int .i64 0] 48))
  have HR := Lib.hid (Blk.new_ (w := w.alloc (.cells #[.int .i64 p, .int .i64 q, .int .i64 t, .int .i64 v] 48)) (g := w.heap.size + 1) (by simp) 48 #[.int .i64 0, .int .i64 0, .int .i64 0, .int .i64 0])
  clear h
  go_enter Tryz.func80, Tryz.ntmps80
  go_wp2_with fail
  go_at_call 114
  refine (rspan_spec A _ c p q t v l _ HL.out hn).mono ?_
  generalize (w.alloc (.cells #[.int .i64 p, .int .i64 q, .int .i64 t, .int .i64 v] 48)).alloc (.cells #[.int .i64 0, .int .i64 0, .int .i64 0, .int .i64 0] 48) = wB at HL HB HX HR ⊢
  unfold RsW
  rintro e w1 ⟨rfl, hb⟩
  obtain ⟨nf, hnf⟩ : ∃ x, lsFrom l p q t v = x := ⟨_, rfl⟩
  obtain ⟨na, hna⟩ : ∃ x, lsAt l p q t v = x := ⟨_, rfl⟩
  obtain ⟨nt, hnt⟩ : ∃ x, lsTo l p q t v = x := ⟨_, rfl⟩
  obtain ⟨nl, hnl⟩ : ∃ x, lsLen l p q t v = x := ⟨_, rfl⟩
  rw [hnf, hna, hnt, hnl]
  have HNA := Lib.hid hna
  have HNL := Lib.hid hnl
  have hszw : w.heap.size + 1 < w1.heap.size := by have := HR.out.lt; have := hb.size; omega
  replace HL := Lib.hid (HL.out.pure hb)
  replace HX := Lib.hid (HX.out.pure hb)
  replace HR := Lib.hid (HR.out.pure hb)
  replace HB := Lib.hid (pure_below HB.out hb)
  clear hb hnf hna hnt hnl
  by_cases he : lsE l p q t v = 0
  · have hok := ls_ok he
    have HLS := Lib.hid he
    rw [he]
    clear he
    by_cases hi0 : i < 0
    · have HE := Lib.hid (show atE l p q t v i = 6 by unfold atE; rw [if_neg (by rw [HLS.out]; decide), if_pos (.inl hi0)])
      have HN := Lib.hid (show (6 : Int) ≠ 0 by decide)
      have hd : decide (i < 0) = true := decide_eq_true hi0
      clear hi0 hok
      have r0 : _ = some (Value.int .i64 0) := HR.out.cell 0; have r1 : _ = some (Value.int .i64 0) := HR.out.cell 1; have r2 : _ = some (Value.int .i64 0) := HR.out.cell 2; have r3 : _ = some (Value.int .i64 0) := HR.out.cell 3; have f0 := HR.out.frozen 0; have f1 := HR.out.frozen 1; have f2 := HR.out.frozen 2; have f3 := HR.out.frozen 3
      go_wp2
      refine bodyPost_ret (v := .tuple #[.agg #[.int .i64 0, .int .i64 0, .int .i64 0, .int .i64 0], .int .i64 6]) (by simp [results, Tryz.results80, go_sem, r0, r1, r2, r3]) rfl ?_
      exact atw_no HE.out HN.out (below_set4 _ HB.out (Nat.le_succ _) _ _ _ _)
    · have hd0 : decide (i < 0) = false := decide_eq_false hi0
      by_cases hin : (nl : Int) ≤ i
      · have HE := Lib.hid (show atE l p q t v i = 6 by unfold atE; rw [if_neg (by rw [HLS.out]; decide), HNL.out, if_pos (.inr hin)])
        have HN := Lib.hid (show (6 : Int) ≠ 0 by decide)
        have hd : decide ((nl : Int) ≤ i) = true := decide_eq_true hin
        clear hi0 hok hin
        have r0 : _ = some (Value.int .i64 0) := HR.out.cell 0; have r1 : _ = some (Value.int .i64 0) := HR.out.cell 1; have r2 : _ = some (Value.int .i64 0) := HR.out.cell 2; have r3 : _ = some (Value.int .i64 0) := HR.out.cell 3; have f0 := HR.out.frozen 0; have f1 := HR.out.frozen 1; have f2 := HR.out.frozen 2; have f3 := HR.out.frozen 3
        go_wp2
        refine bodyPost_ret (v := .tuple #[.agg #[.int .i64 0, .int .i64 0, .int .i64 0, .int .i64 0], .int .i64 6]) (by simp [results, Tryz.results80, go_sem, r0, r1, r2, r3]) rfl ?_
        exact atw_no HE.out HN.out (below_set4 _ HB.out (Nat.le_succ _) _ _ _ _)
      · obtain ⟨hL, hT, hW, hbd, _, _, _, _, _⟩ := hok
        have v1 := isW_iff.1 hW
        obtain ⟨V, rfl⟩ : ∃ V : Nat, v = V := ⟨v.toNat, by omega⟩
        obtain ⟨I, rfl⟩ : ∃ I : Nat, i = I := ⟨i.toNat, by omega⟩
        rw [HNA.out, HNL.out, Int.toNat_natCast] at hbd
        have hI : I < nl := by omega
        have hd : decide (nl ≤ I) = false := decide_eq_false (by omega)
        obtain ⟨X, hX⟩ : ∃ X, I * V = X := ⟨_, rfl⟩
        obtain ⟨K, hK⟩ : ∃ K, nl * V = K := ⟨_, rfl⟩
        have hXK : X + V ≤ K := by
          rw [← hX, ← hK]
          have := Nat.mul_le_mul_right V (show I + 1 ≤ nl by omega)
          rw [Nat.succ_mul] at this
          exact this
        have hmulT : nl * (V + tgs t) = K + nl * tgs t := by rw [Nat.mul_add, hK]
        rw [hmulT] at hbd
        have HXX := Lib.hid hX
        have HKK := Lib.hid hK
        have HM1 := Lib.hid (mul_wrap0 I V X (by rw [Nat.add_zero]; exact hX) (by omega))
        have HM2 := Lib.hid (mul_wrap0 nl V K (by rw [Nat.add_zero]; exact hK) (by omega))
        have hV8 : V ≤ 8 := by omega
        clear hi0 hd0 hin hX hK hL hT hW v1 hmulT
        have x2 : _ = some (Value.int .i64 t) := HX.out.cell 2
        have x3 : _ = some (Value.int .i64 V) := HX.out.cell 3
        have ha40 : na + X ≤ 1099511627776 := by omega
        have hq1 : ¬ (w.heap.size + 1 = w1.heap.size) := by omega
        have hq2 : ¬ (w.heap.size = w1.heap.size) := by omega
        go_upto_region 6 with fail
        have HBD := Lib.hid hbd
        have HHD := Lib.hid hd
        have HXK := Lib.hid hXK
        have HGE := Lib.hid (show w.heap.size ≤ w1.heap.size by omega)
        have hm1 := HM1.out
        clear hd hbd hXK hszw
        replace HX := Lib.hid (HX.out.alloc (.cells #[.int .i64 ((na : Int) + X), .int .i64 V, .int .i64 0, .int .i64 0] 48))
        replace HR := Lib.hid (HR.out.alloc (.cells #[.int .i64 ((na : Int) + X), .int .i64 V, .int .i64 0, .int .i64 0] 48))
        replace HL := Lib.hid (HL.out.alloc (.cells #[.int .i64 ((na : Int) + X), .int .i64 V, .int .i64 0, .int .i64 0] 48))
        replace HB := Lib.hid (HB.out.alloc HB.out.size (.cells #[.int .i64 ((na : Int) + X), .int .i64 V, .int .i64 0, .int .i64 0] 48))
        have HN := Lib.hid (Blk.new w1 48 #[.int .i64 ((na : Int) + X), .int .i64 V, .int .i64 0, .int .i64 0])
        go_upto_region 7 with fail
        clear hm1 x2 x3
        generalize w1.alloc (.cells #[.int .i64 ((na : Int) + X), .int .i64 V, .int .i64 0, .int .i64 0] 48) = w2 at HX HR HL HB HN ⊢
        have x2 : _ = some (Value.int .i64 t) := HX.out.cell 2
        have x3 : _ = some (Value.int .i64 V) := HX.out.cell 3
        have n0 : _ = some (Value.int .i64 ((na : Int) + X)) := HN.out.cell 0; have n1 : _ = some (Value.int .i64 V) := HN.out.cell 1; have n2 : _ = some (Value.int .i64 0) := HN.out.cell 2; have n3 : _ = some (Value.int .i64 0) := HN.out.cell 3; have m2 := HN.out.frozen 2; have m3 := HN.out.frozen 3
        cases hTg : tagT t with
        | true =>
          have HTG := Lib.hid hTg
          have hbd := HBD.out
          have hXK := HXK.out
          rw [show tgs t = 1 by unfold tgs; rw [hTg]; rfl, Nat.mul_one] at hbd
          clear hTg
          have hlt : na + K + I < l.length := by omega
          obtain rfl : nl * V = K := HKK.out
          obtain ⟨c0, hc0⟩ : ∃ c0, l[na + nl * V + I] = c0 := ⟨_, rfl⟩
          have hget : l[na + nl * V + I]? = some c0 := by rw [List.getElem?_eq_getElem hlt, hc0]
          have hB : tagB l p q t V I = c0 := by
            unfold tagB
            rw [HNA.out, HNL.out, Int.toNat_natCast, Int.toNat_natCast, List.getD_eq_getElem?_getD, hget]
            rfl
          have HTB := Lib.hid hB
          have hIn : ¬ ((I : Int) < 0 ∨ (nl : Int) ≤ I) := by omega
          have HAE := Lib.hid (show atE l p q t V I = unE c0 by unfold atE; rw [if_neg (by rw [HLS.out]; decide), HNL.out, if_neg hIn, HTG.out, HTB.out]; rfl)
          have hsz : na + nl * V + I < l.length := hlt
          obtain ⟨g, off, hA, hkl, hcell⟩ := isb_at HL.out hlt
          have hcc : l[na + nl * V + I] = c0 := hc0
          rw [hcc] at hcell
          have HS3 := Lib.hid (show ((na : Int) + (nl : Int) * (V : Int) + (I : Int)).toNat = na + nl * V + I by rw [← Int.natCast_mul]; omega)
          have hp1 : (nl : Int) * (V : Int) ≤ 1099511627776 := by rw [← Int.natCast_mul]; omega
          have hp2 : 0 ≤ (nl : Int) * (V : Int) := by rw [← Int.natCast_mul]; omega
          have hp3 : (na : Int) + (nl : Int) * (V : Int) + (I : Int) ≤ 1099511627776 := by rw [← Int.natCast_mul]; omega
          have hp4 : (na : Int) + (nl : Int) * (V : Int) + (I : Int) < l.length := by rw [← Int.natCast_mul]; omega
          clear hB hget hc0 hIn hcc hkl hbd hXK
          go_wp2_with fail
          go_at_call 104
          refine (tags_spec t _).mono ?_
          rw [HTG.out]
          rintro e w9 ⟨rfl, rfl⟩
          subst hA
          have hs3 := HS3.out
          go_wp2_with fail
          clear hs3
          go_at_call 61
          refine (runpack_spec c0 _).mono ?_
          rintro e w9 ⟨rfl, rfl⟩
          have r0 : _ = some (Value.int .i64 0) := HR.out.cell 0; have r1 : _ = some (Value.int .i64 0) := HR.out.cell 1; have r2 : _ = some (Value.int .i64 0) := HR.out.cell 2; have r3 : _ = some (Value.int .i64 0) := HR.out.cell 3; have f0 := HR.out.frozen 0; have f1 := HR.out.frozen 1; have f2 := HR.out.frozen 2; have f3 := HR.out.frozen 3
          by_cases hu : unE c0 = 0
          · have HU := Lib.hid hu
            have HE := Lib.hid (HAE.out.trans hu)
            rw [hu]
            clear hu
            go_wp2
            refine bodyPost_ret (v := .tuple #[.agg #[.int .i64 ((na : Int) + X), .int .i64 V, .int .i64 (unT c0), .int .i64 (unW c0)], .int .i64 0]) (by simp [results, Tryz.results80, go_sem, r0, r1, r2, r3]) rfl ?_
            exact atw_yes HE.out (by rw [HNA.out, Int.toNat_natCast, Int.toNat_natCast, HXX.out]) rfl (by rw [HTG.out]; exact (if_pos rfl).trans (by rw [HTB.out])) (by rw [HTG.out]; exact (if_pos rfl).trans (by rw [HTB.out])) (below_set4 _ ((HB.out.setCell HGE.out _).setCell HGE.out _) (Nat.le_succ _) _ _ _ _)
          · have HU := Lib.hid hu
            have HE := HAE
            have hne : (unE c0 != 0) = true := by simpa using hu
            clear hu
            go_wp2
            refine bodyPost_ret (v := .tuple #[.agg #[.int .i64 0, .int .i64 0, .int .i64 0, .int .i64 0], .int .i64 (unE c0)]) (by simp [results, Tryz.results80, go_sem, r0, r1, r2, r3]) rfl ?_
            exact atw_no HE.out HU.out (below_set4 _ HB.out (Nat.le_succ _) _ _ _ _)
        | false =>
          have HTG := Lib.hid hTg
          clear hTg
          have HE := Lib.hid (show atE l p q t V I = 0 by unfold atE; rw [if_neg (by rw [HLS.out]; decide), HNL.out, if_neg (by omega), HTG.out]; rfl)
          go_wp2_with fail
          go_at_call 104
          refine (tags_spec t _).mono ?_
          rw [HTG.out]
          rintro e w9 ⟨rfl, rfl⟩
          go_wp2_with fail
          go_at_call 115
          refine (relem_spec t _).mono ?_
          rintro e w9 ⟨rfl, rfl⟩
          have r0 : _ = some (Value.int .i64 0) := HR.out.cell 0; have r1 : _ = some (Value.int .i64 0) := HR.out.cell 1; have r2 : _ = some (Value.int .i64 0) := HR.out.cell 2; have r3 : _ = some (Value.int .i64 0) := HR.out.cell 3; have f0 := HR.out.frozen 0; have f1 := HR.out.frozen 1; have f2 := HR.out.frozen 2; have f3 := HR.out.frozen 3
          go_wp2
          refine bodyPost_ret (v := .tuple #[.agg #[.int .i64 ((na : Int) + X), .int .i64 V, .int .i64 (elemT t), .int .i64 V], .int .i64 0]) (by simp [results, Tryz.results80, go_sem, r0, r1, r2, r3]) rfl ?_
          exact atw_yes HE.out (by rw [HNA.out, Int.toNat_natCast, Int.toNat_natCast, HXX.out]) rfl (by rw [HTG.out]; exact if_neg (by decide)) (by rw [HTG.out]; exact if_neg (by decide)) (below_set4 _ ((HB.out.setCell HGE.out _).setCell HGE.out _) (Nat.le_succ _) _ _ _ _)
  · have HE := Lib.hid (show atE l p q t v i = lsE l p q t v from if_pos he)
    have HN := Lib.hid he
    have hne : (lsE l p q t v != 0) = true := by simpa using he
    clear he
    have r0 : _ = some (Value.int .i64 0) := HR.out.cell 0; have r1 : _ = some (Value.int .i64 0) := HR.out.cell 1; have r2 : _ = some (Value.int .i64 0) := HR.out.cell 2; have r3 : _ = some (Value.int .i64 0) := HR.out.cell 3; have f0 := HR.out.frozen 0; have f1 := HR.out.frozen 1; have f2 := HR.out.frozen 2; have f3 := HR.out.frozen 3
    go_wp2
    refine bodyPost_ret (v := .tuple #[.agg #[.int .i64 0, .int .i64 0, .int .i64 0, .int .i64 0], .int .i64 (lsE l p q t v)]) (by simp [results, Tryz.results80, go_sem, r0, r1, r2, r3]) rfl ?_
    exact atw_no HE.out HN.out (below_set4 _ HB.out (Nat.le_succ _) _ _ _ _)
end Go.Proofs.YtejalfjeihlpeaaGreat

namespace Go.Proofs.YtejalfjeihlpeaaGreat
open Go.RowKit Go.Acc
/-- The bytes of a literal. -/
def unb (vs : Array Value) : List UInt8 := vs.toList.map fun v => match v with | .int _ z => UInt8.ofNat z.toNat | _ => 0
theorem isb_vs (w : World) (vs : Array Value) (n : Nat) (hn : vs.size = n) (h : vs.toList = (unb vs).flatMap bc) : IsB (w.alloc (.cells vs 5)) (some ⟨w.heap.size, 0, none⟩) n (unb vs) :=
  ⟨by rw [← hn]; simp [unb], fun j u hj => ⟨_, _, rfl, by rw [(Blk.new w 5 vs).cell, Nat.zero_add, ← Array.getElem?_toList, h]; exact hj⟩⟩
theorem root_spec2 (A : Option Addr) (n c : Nat) (l : List UInt8) (w : World) (a b d e f : Int) (hl : IsB w A n l) (hn : n ≤ 9223372036854775807) (h : rootR l = (a, b, d, e)) (h' : rootE l = f) :
    Calls Tryz.prog 25 #[.slice A n c] w fun e' w' => e' = .returned (.tuple #[.agg #[.int .i64 a, .int .i64 b, .int .i64 d, .int .i64 e], .int .i64 f]) ∧ Below w.heap.size w w' := by
  have := root_spec A n c l w hl hn
  rw [h, h'] at this
  exact this
end Go.Proofs.YtejalfjeihlpeaaGreat

namespace Go.Proofs.YtejalfjeihlpeaaGreat
open Go.RowKit Go.Acc
theorem lslen_le (l : List UInt8) (p q t v : Int) : lsLen l p q t v ≤ l.length := by
  by_cases h : lsE l p q t v = 0
  · obtain ⟨_, _, hw, hb, _⟩ := ls_ok h
    have := isW_iff.1 hw
    have : lsLen l p q t v ≤ lsLen l p q t v * (v.toNat + tgs t) := Nat.le_mul_of_pos_right _ (by omega)
    omega
  · rw [(ls_zero h).2.2.2]; exact Nat.zero_le _
theorem lspan_is (A : Option Addr) (n c : Nat) (p q t v f a o er : Int) (l : List UInt8) (w : World) (h : IsB w A n l) (hc : n ≤ c) (hn : n ≤ 1099511627776) (h1 : (lsFrom l p q t v : Int) = f) (h2 : (lsAt l p q t v : Int) = a) (h3 : (lsTo l p q t v : Int) = o) (h4 : lsE l p q t v = er) :
    Calls Tryz.prog 90 #[.slice A n c, .agg #[.int .i64 p, .int .i64 q, .int .i64 t, .int .i64 v]] w fun e w' => e = .returned (.tuple #[.int .i64 f, .int .i64 a, .int .i64 o, .int .i64 er]) ∧ Below w.heap.size w w' := by
  subst h1 h2 h3 h4
  exact lspan_spec A n c p q t v l w h hc hn
theorem llen_is (A : Option Addr) (n c : Nat) (p q t v k er : Int) (l : List UInt8) (w : World) (h : IsB w A n l) (hc : n ≤ c) (hn : n ≤ 1099511627776) (h1 : (lsLen l p q t v : Int) = k) (h4 : lsE l p q t v = er) :
    Calls Tryz.prog 91 #[.slice A n c, .agg #[.int .i64 p, .int .i64 q, .int .i64 t, .int .i64 v]] w fun e w' => e = .returned (.tuple #[.int .i64 k, .int .i64 er]) ∧ Below w.heap.size w w' := by
  subst h1 h4
  exact llen_spec A n c p q t v l w h hc hn
theorem lat_is (A : Option Addr) (n c : Nat) (p q t v i a b d g er : Int) (l : List UInt8) (w : World) (h : IsB w A n l) (hc : n ≤ c) (hn : n ≤ 1099511627776) (h1 : atP l p q t v i = a) (h2 : atQ l p q t v i = b) (h3 : atT l p q t v i = d) (h4 : atV l p q t v i = g) (h5 : atE l p q t v i = er) :
    Calls Tryz.prog 93 #[.slice A n c, .agg #[.int .i64 p, .int .i64 q, .int .i64 t, .int .i64 v], .int .i64 i] w fun e w' => e = .returned (.tuple #[.agg #[.int .i64 a, .int .i64 b, .int .i64 d, .int .i64 g], .int .i64 er]) ∧ Below w.heap.size w w' := by
  subst h1 h2 h3 h4 h5
  exact lat_spec A n c p q t v i l w h hc hn
end Go.Proofs.YtejalfjeihlpeaaGreat

namespace Go.Proofs.YtejalfjeihlpeaaGreat
open Go.RowKit Go.Acc
theorem below_drew (w : World) : Below w.heap.size w w.drew := (Below.refl _ _).drew
end Go.Proofs.YtejalfjeihlpeaaGreat

namespace Go.Acc
open Go.RowKit Go.ChangeShapes Go.WideShapes Go.Deep

section
variable {H : Type} {enc : TypeId × Value → H} {P : Program} {W W' : World}
theorem below_arg {t : TypeId} (hl : laidOutB P = true) (hr : P.readableRec t = true) (hrow : t < P.types.size) {v : Value} {d : DataW H} {ps : List MemPlace}
    (h : DataW.Trod enc P W 0 (fun _ => true) true t v d ps) (hb : Below W.heap.size W W') : DataW.Trod enc P W' 0 (fun b => decide (b < W.heap.size)) true t v d ps :=
  Below.trod hl hr hrow h hb (by obtain ⟨m, hm⟩ := h; exact DataW.trod_lt m _ _ _ hm)

/-- An integer's bounds. -/
theorem i64_bd {n : Int} (h : (Lit.int .i64 n).wf = true) : -9223372036854775808 ≤ n ∧ n ≤ 9223372036854775807 := by
  simp [Lit.wf, IntKind.min, IntKind.max, IntKind.signed, IntKind.bits] at h
  exact ⟨by omega, by omega⟩
theorem u64_bd {n : Int} (h : (Lit.int .u64 n).wf = true) : 0 ≤ n ∧ n ≤ 18446744073709551615 := by
  simp [Lit.wf, IntKind.min, IntKind.max, IntKind.signed, IntKind.bits] at h
  exact ⟨by omega, by omega⟩
theorem u8_bd {n : Int} (h : (Lit.int .u8 n).wf = true) : 0 ≤ n ∧ n ≤ 255 := by
  simp [Lit.wf, IntKind.min, IntKind.max, IntKind.signed, IntKind.bits] at h
  exact ⟨by omega, by omega⟩

/-- Elements found one by one make a list. -/
theorem list_of {α : Type} (p : Nat → α → Prop) (n : Nat) (h : ∀ i, i < n → ∃ x, p i x) : ∃ l : List α, l.length = n ∧ ∀ i (hi : i < l.length), p i l[i] := by
  induction n with
  | zero => exact ⟨[], rfl, fun i hi => by simp at hi⟩
  | succ n ih =>
    obtain ⟨l, hl, hp⟩ := ih fun i hi => h i (by omega)
    obtain ⟨x, hx⟩ := h n (by omega)
    refine ⟨l ++ [x], by simp [hl], fun i hi => ?_⟩
    by_cases hin : i < l.length
    · rw [List.getElem_append_left hin]; exact hp i hin
    · have : i = n := by simp at hi; omega
      subst this
      rw [List.getElem_append_right (by omega)]
      simpa [hl] using hx

theorem add_spot {w : World} {a : Addr} {u : Value} (h : w.cell? a = some u) : a = ⟨a.block, a.off, none⟩ := by
  have := spot_of_cell h
  cases a
  simp_all

/-- A slice whose elements read, one by one, as elements of f. -/
theorem is_of_elems {α : Type} {f : α → List Value} {sz : Nat} (hf : ∀ x, (f x).length = sz) (hz : 0 < sz) {w : World} {a : Addr} {n : Nat} (q : α → Prop)
    (h : ∀ i, i < n → ∃ x, q x ∧ ∀ j, j < sz → w.cell? (a.add (i * sz + j)) = (f x)[j]?) : ∃ l, Is f w (some a) n l ∧ ∀ x ∈ l, q x := by
  obtain ⟨l, hl, hp⟩ := list_of _ n h
  refine ⟨l, ⟨hl, fun t u hu => ?_⟩, fun x hx => ?_⟩
  · have ht : t < n * sz := by
      have := (List.getElem?_eq_some_iff.1 hu).1
      rw [fm_length hf, hl] at this
      exact this
    have hpos : 0 < n := by
      rcases Nat.eq_zero_or_pos n with h0 | h0
      · subst h0; simp at ht
      · exact h0
    have h0 := (hp 0 (by omega)).2 0 hz
    rw [List.getElem?_eq_getElem (by rw [hf]; exact hz)] at h0
    have ha : a = ⟨a.block, a.off, none⟩ := by
      have := add_spot h0
      simpa [Addr.add] using add_spot (w := w) (a := a) (by simpa [Addr.add] using h0)
    have hi : t / sz < l.length := by rw [hl]; exact Nat.div_lt_of_lt_mul (by rw [Nat.mul_comm]; exact ht)
    have hj : t % sz < sz := Nat.mod_lt _ hz
    have e : t / sz * sz + t % sz = t := by rw [Nat.mul_comm]; exact Nat.div_add_mod t sz
    have hc := (hp _ hi).2 _ hj
    have hu' := fm_at hf l (t / sz) (t % sz) hi hj
    rw [e, hu] at hu'
    rw [e, ← hu'] at hc
    refine ⟨a.block, a.off, by rw [← ha], ?_⟩
    rw [ha, add_none] at hc
    exact hc
  · obtain ⟨i, hi, rfl⟩ := List.mem_iff_getElem.1 hx
    exact (hp i hi).1

variable {w : World} {base : Nat} {spare : Nat → Bool} {held : Bool}
/-- A slice of structs of one-cell fields: each field of each element, and its own reading. -/
theorem open_fields {t e : TypeId} {fs : Array Field} {fuel : Nat} {cs : List Value} {x : DataW H × List MemPlace} (ht : P.underlying t = some (.slice e)) (he : P.underlying e = some (.struct fs))
    (hone : oneCellFields P fs = true) (hC : P.cellsOf e = fs.size) (h : DataW.trod enc P w base spare held fuel t cs = some x) :
    cs = [.slice none 0 0] ∨
    ∃ (a : Addr) (len cap : Nat), cs = [.slice (some a) len cap] ∧ len ≤ cap ∧ cap ≤ maxLen ∧
      ∀ i, i < len → ∃ n, ∀ (j : Nat) (f : Field), fs[j]? = some f → ∃ (v : Value) (y : DataW H × List MemPlace), w.cell? (a.add (i * fs.size + j)) = some v ∧ DataW.trod enc P w base spare held n f.type [v] = some y := by
  rcases open_slice ht h with ⟨h0, _⟩ | ⟨a, len, cap, m, n, D, Pl, hcs, hb, hl, hm, hmm, _, hi⟩
  · exact .inl h0
  · refine .inr ⟨a, len, cap, hcs, hl, hm, fun i hil => ?_⟩
    obtain ⟨cs', hc, ht'⟩ := hi i (by rw [hmm]; split <;> omega)
    rw [hC] at hc
    obtain ⟨ys, n', _, _, _, hyl, hf⟩ := DataW.trod_struct he ht'
    obtain ⟨_, hcl, hat⟩ := World.cells?_some hc
    refine ⟨n', fun j f hj => ?_⟩
    obtain ⟨ho, hk⟩ := hone_of hone j f hj
    have hjl : j < fs.size := (Array.getElem?_eq_some_iff.1 hj).1
    have hcell := hat j hjl
    have hv : cs'[j]? = some (cs'[j]'(by omega)) := List.getElem?_eq_getElem (by omega)
    have h1 := hf j f hj
    rw [ho, hk] at h1
    have hone' : (cs'.drop j).take 1 = [cs'[j]'(by omega)] := by
      rw [List.drop_eq_getElem_cons (by omega)]
      rfl
    rw [hone'] at h1
    have hys : ys[j]? = some (ys[j]'(by omega)) := List.getElem?_eq_getElem (by omega)
    refine ⟨_, _, ?_, h1.trans hys⟩
    rw [← Go.Deep.add_add, hcell, hv]
end
end Go.Acc

namespace Go.Proofs.YtejalfjeihlpeaaGreat
open Go.ChangeShapes Go.WideShapes Go.ChangeAt Go.RowKit Go.Acc
theorem acc_own : ownKnob Tryz.prog.godebug = none := by kernel_rfl
theorem acc_laidOut : laidOutB Tryz.prog = true := by kernel_rfl
section
variable {H : Type} {enc : TypeId × Value → H} {W : World} {base : Nat} {spare : Nat → Bool} {held : Bool}
/-- A slice of bytes, read. -/
theorem bytes_read {fuel : Nat} {v : Value} {x : DataW H × List MemPlace} (h : DataW.trod enc Tryz.prog W base spare held fuel 22 [v] = some x) :
    ∃ A n c l, v = .slice A n c ∧ IsB W A n l ∧ n ≤ c ∧ n ≤ 9223372036854775807 := by
  rcases open_ints Tryz.underlying22 Tryz.underlying5 (by kernel_rfl) h with ⟨e, _⟩ | ⟨a, n, c, zs, e, _, hl, hm, hz, _, hcell, hwf⟩
  · obtain rfl : v = .slice none 0 0 := by simpa using e
    exact ⟨none, 0, 0, [], rfl, Is.nil _ _, by omega, by omega⟩
  · obtain rfl : v = .slice (some a) n c := by simpa using e
    simp only [maxLen] at hm
    have hzn : n ≤ zs.length := by rw [hz]; split <;> omega
    obtain ⟨l, hl', _⟩ := is_of_elems (f := bc) (sz := 1) bc_len (by omega) (w := W) (a := a) (n := n) (fun _ => True) (fun i hi => by
      have hc := hcell i (by omega)
      have hb := u8_bd (hwf (zs.getD i 0) (by rw [List.getD_eq_getElem?_getD, List.getElem?_eq_getElem (show i < zs.length by omega)]; exact List.getElem_mem _))
      refine ⟨UInt8.ofNat (zs.getD i 0).toNat, trivial, fun j hj => ?_⟩
      obtain rfl : j = 0 := by omega
      have e : ((UInt8.ofNat (zs.getD i 0).toNat).toNat : Int) = zs.getD i 0 := by rw [UInt8.toNat_ofNat']; omega
      rw [Nat.mul_one, Nat.add_zero, hc]
      show _ = some (Value.int .u8 _)
      rw [e])
    exact ⟨some a, n, c, l, rfl, hl', hl, by omega⟩
set_option maxRecDepth 100000 in
/-- An argument that is a slice of bytes. -/
theorem bytes_arg {v : Value} {d : DataW H} {p : List MemPlace} (k : Value.okWide Tryz.prog W .any base 22 v) (h : DataW.Trod enc Tryz.prog W 0 (fun _ => true) true 22 v d p) :
    ∃ A n c l, v = .slice A n c ∧ IsB W A n l ∧ n ≤ c ∧ n ≤ 9223372036854775807 := by
  obtain ⟨_, _, _, rfl⟩ := okWide_slice Tryz.underlying22 k
  obtain ⟨f, hf⟩ := h
  exact bytes_read hf
set_option maxRecDepth 100000 in
theorem int_arg {v : Value} {d : DataW H} {p : List MemPlace} (k : Value.okWide Tryz.prog W .any base 3 v) (h : DataW.Trod enc Tryz.prog W 0 (fun _ => true) true 3 v d p) :
    ∃ m : Int, v = .int .i64 m ∧ -9223372036854775808 ≤ m ∧ m ≤ 9223372036854775807 := by
  obtain ⟨m, rfl⟩ := okWide_int Tryz.underlying3 k
  obtain ⟨f, hf⟩ := h
  obtain ⟨m', e, _, hw⟩ := DataW.trod_int Tryz.underlying3 hf
  obtain rfl : m = m' := by simpa [Value.cells] using e
  exact ⟨m, rfl, i64_bd hw⟩
set_option maxRecDepth 100000 in
theorem u64_arg {v : Value} {d : DataW H} {p : List MemPlace} (k : Value.okWide Tryz.prog W .any base 38 v) (h : DataW.Trod enc Tryz.prog W 0 (fun _ => true) true 38 v d p) :
    ∃ u : Nat, v = .int .u64 u ∧ (u : Int) < 18446744073709551616 := by
  obtain ⟨m, rfl⟩ := okWide_int Tryz.underlying38 k
  obtain ⟨f, hf⟩ := h
  obtain ⟨m', e, _, hw⟩ := DataW.trod_int Tryz.underlying38 hf
  obtain rfl : m = m' := by simpa [Value.cells] using e
  have := u64_bd hw
  obtain ⟨u, rfl⟩ := Int.eq_ofNat_of_zero_le this.1
  exact ⟨u, rfl, by have := this.2; omega⟩
end
end Go.Proofs.YtejalfjeihlpeaaGreat
