/-
  Package list's reference: the span.
-/
import Derived.Test.YtejalfjeihlpeaaGreatQ11
namespace Go.Proofs.YtejalfjeihlpeaaGreat
open Go.RowKit Go.Acc
theorem ahead_is (t : Int) (a : Nat) (w : World) (h : aheadT t = a) : Calls Tryz.prog 103 #[.int .i64 t] w fun e w' => e = .returned (.int .i64 (a : Int)) ∧ w = w' := by
  subst h
  exact ahead_spec t w
theorem ahead_q {t : Int} {a : Nat} {w : World} (h : aheadT t = a) : Calls Tryz.prog 103 #[.int .i64 t] w fun e w' => e = .returned (.int .i64 (a : Int)) ∧ w' = w := (ahead_is t a w h).mono fun _ _ ⟨h, e⟩ => ⟨h, e.symm⟩
def RsW (w : World) (l : List UInt8) (p q t v : Int) (e : Ending) (w' : World) : Prop :=
  e = .returned (.tuple #[.int .i64 (lsFrom l p q t v : Nat), .int .i64 (lsAt l p q t v : Nat), .int .i64 (lsTo l p q t v : Nat), .int .i64 (lsLen l p q t v : Nat), .int .i64 (lsE l p q t v)]) ∧ Below w.heap.size w w'
theorem rsw_no {w w' : World} {l : List UInt8} {p q t v er : Int} (h : lsE l p q t v = er) (hne : er ≠ 0) (hb : Below w.heap.size w w') :
    RsW w l p q t v (.returned (.tuple #[.int .i64 0, .int .i64 0, .int .i64 0, .int .i64 0, .int .i64 er])) w' := by
  unfold RsW
  obtain ⟨e1, e2, e3, e4⟩ := ls_zero (l := l) (p := p) (q := q) (t := t) (v := v) (by rw [h]; exact hne)
  rw [h, e1, e2, e3, e4]
  exact ⟨rfl, hb⟩
theorem rsw_yes {w w' : World} {a f o k : Nat} {l : List UInt8} {p q t v : Int} (h : lsE l p q t v = 0) (ha : (tgt l p q t v).toNat = a) (hf : a - aheadT t * v.toNat = f) (hk : lsN l p q t v = k) (ho : a + k * lsX t v = o) (hb : Below w.heap.size w w') :
    RsW w l p q t v (.returned (.tuple #[.int .i64 f, .int .i64 a, .int .i64 o, .int .i64 k, .int .i64 0])) w' := by
  unfold RsW lsFrom lsAt lsTo lsLen
  rw [h, if_pos rfl, if_pos rfl, if_pos rfl, if_pos rfl, ha, hf, hk, ho]
  exact ⟨rfl, hb⟩
theorem div_lt_iff {a b y k : Nat} (hy : 0 < y) (h : b ≤ a) : (a - b) / y < k ↔ a < b + k * y := by
  rw [Nat.div_lt_iff_lt_mul hy]
  omega
theorem tag_vec {t : Int} (h : tagT t = true) : vecT t = false := by
  unfold tagT at h
  rw [decide_eq_true_eq] at h
  rcases h with rfl | rfl <;> rfl
theorem blk_drewN {w : World} {g : Nat} {t : TypeId} {cs : Array Value} (h : Blk w g t cs) (k : Nat) : Blk (w.drewN k) g t cs := h
theorem quo_wrap0 {D V Q : Nat} (h : D / (V + 0) = Q) (hD : D ≤ 1099511627776) : IntKind.u64.wrap ((D : Int) / (V : Int)) = (Q : Int) := by
  rw [Nat.add_zero] at h
  have hl := Nat.div_le_self D V
  rw [← Int.natCast_ediv, h]
  rw [h] at hl
  exact u64_in _ (by omega)
theorem quo_wrap1 {D V Q : Nat} (h : D / (V + 1) = Q) (hD : D ≤ 1099511627776) : IntKind.u64.wrap ((D : Int) / ((V : Int) + 1)) = (Q : Int) := by
  have hl := Nat.div_le_self D (V + 1)
  rw [show (V : Int) + 1 = ((V + 1 : Nat) : Int) from rfl, ← Int.natCast_ediv, h]
  rw [h] at hl
  exact u64_in _ (by omega)
theorem len_wrap {n b D : Nat} (h : n - b = D) (hb : b ≤ n) (hn : n ≤ 1099511627776) : IntKind.u64.wrap ((n : Int) - (b : Int)) = (D : Int) := u64_in _ (by omega) |>.trans (by omega)
set_option maxRecDepth 100000 in
set_option maxHeartbeats 4000000 in
theorem rspan_spec (A : Option Addr) (n c : Nat) (p q t v : Int) (l : List UInt8) (w : World) (h : IsB w A n l) (hn : n ≤ 1099511627776) :
    Calls Tryz.prog 114 #[.slice A n c, .agg #[.int .i64 p, .int .i64 q, .int .i64 t, .int .i64 v]] w (RsW w l p q t v) := by
  have hlen := h.1
  subst hlen
  have HL := Lib.hid (h.alloc (.cells #[.int .i64 p, .int .i64 q, .int .i64 t, .int .i64 v] 48))
  have HB := Lib.hid ((Below.refl w.heap.size w).alloc (Nat.le_refl _) (.cells #[.int .i64 p, .int .i64 q, .int .i64 t, .int .i64 v] 48))
  have HX := Lib.hid (Blk.new w 48 #[.int .i64 p, .int .i64 q, .int .i64 t, .int .i64 v])
  have hcs := ls_cases l p q t v
  clear h
  go_enter Tryz.func114, Tryz.ntmps114
  go_wp2_with fail
  go_at_call 98
  refine (rmay_spec A _ c p q t v _ (by omega)).mono ?_
  generalize w.alloc (.cells #[.int .i64 p, .int .i64 q, .int .i64 t, .int .i64 v] 48) = wB at HL HB HX ⊢
  have x0 := cell0 HX.out; have x1 := cell1 HX.out; have x2 := cell2 HX.out; have x3 := cell3 HX.out
  rintro e w1 ⟨rfl, hb⟩
  clear x0 x1 x2 x3; replace HB := Lib.hid (pure_below HB.out hb); replace HX := Lib.hid (HX.out.pure hb); replace HL := Lib.hid (HL.out.pure hb); clear hb; have x0 := cell0 HX.out; have x1 := cell1 HX.out; have x2 := cell2 HX.out; have x3 := cell3 HX.out
  rcases hcs with ⟨hm, he⟩ | ⟨hm, hcs⟩
  · have HE := Lib.hid he
    have HN := Lib.hid hm
    have hne : (mayE l.length p q t v != 0) = true := by simpa using hm
    clear he hm
    go_wp2
    refine bodyPost_ret (v := .tuple #[.int .i64 0, .int .i64 0, .int .i64 0, .int .i64 0, .int .i64 (mayE l.length p q t v)]) (by simp [results, Tryz.results114, go_sem]) rfl ?_
    exact rsw_no HE.out HN.out HB.out
  · obtain ⟨g1, g2⟩ := mayE_ok.1 hm
    have g1 := formed_iff.1 g1
    have v1 := isW_iff.1 g1.2.2
    have ht := legal_isT g1.1
    rw [hm]
    obtain ⟨V, rfl⟩ : ∃ V : Nat, v = V := ⟨v.toNat, by omega⟩
    have hv1 : 1 ≤ V := by omega
    have hv8 : V ≤ 8 := by omega
    have hvz : (V == 0) = false := beq_eq_false_iff_ne.mpr (by omega)
    have HCS := Lib.hid hcs
    have hsh := shcases ht
    clear g1 g2 v1 hcs hm ht
    rcases hsh with ⟨hL, _⟩ | ⟨hL, hM, hM4, hT, hA, _⟩ | ⟨hL, hM, hA, _⟩
    · have he : lsE l p q t V = 60 := by
        rcases HCS.out with ⟨_, e⟩ | ⟨h, _⟩
        · exact e
        · rw [hL] at h; cases h
      have HE := Lib.hid he
      have HN := Lib.hid (show (60 : Int) ≠ 0 by decide)
      have HV := Lib.hid (show vecT t = false by unfold isL at hL; rw [Bool.or_eq_false_iff] at hL; exact hL.2)
      have HTB := Lib.hid (show tagT t = false by unfold isL at hL; rw [Bool.or_eq_false_iff] at hL; exact hL.1)
      clear he hL HCS
      go_wp2_with fail
      go_at_call 115
      refine (relem_spec t _).mono ?_
      rw [HV.out]
      rintro e w9 ⟨rfl, rfl⟩
      go_wp2_with fail
      go_at_call 104
      refine (tags_spec t _).mono ?_
      rw [HTB.out]
      rintro e w9 ⟨rfl, rfl⟩
      go_wp2
      refine bodyPost_ret (v := .tuple #[.int .i64 0, .int .i64 0, .int .i64 0, .int .i64 0, .int .i64 60]) (by simp [results, Tryz.results114, go_sem]) rfl ?_
      exact rsw_no HE.out HN.out HB.out
    · obtain ⟨MM, hMM⟩ : ∃ MM : Nat, manyT t = MM := ⟨(manyT t).toNat, by omega⟩
      have hlsN : lsN l p q t V = MM := by unfold lsN; rw [if_pos hM, hMM]; rfl
      have hlsX : lsX t V = V + 0 := by unfold lsX tgs; rw [hT]; rfl
      have HMV := Lib.hid hMM
      have hM4' : MM ≤ 4 := by omega
      have hM1' : 1 ≤ MM := by omega
      have HV := Lib.hid (many_vec hM)
      have HTB := Lib.hid hT
      have hcs : (tgtE l p q t V ≠ 0 ∧ lsE l p q t V = tgtE l p q t V) ∨ (tgtE l p q t V = 0 ∧
          ((tgt l p q t V % V ≠ 0 ∧ lsE l p q t V = 212) ∨ (tgt l p q t V % V = 0 ∧ (tgt l p q t V).toNat < 0 * V ∧ lsE l p q t V = 211) ∨
          (tgt l p q t V % V = 0 ∧ 0 * V ≤ (tgt l p q t V).toNat ∧ l.length < (tgt l p q t V).toNat + MM * (V + 0) ∧ lsE l p q t V = 211) ∨
          (tgt l p q t V % V = 0 ∧ 0 * V ≤ (tgt l p q t V).toNat ∧ (tgt l p q t V).toNat + MM * (V + 0) ≤ l.length ∧ lsE l p q t V = 0))) := by
        rcases HCS.out with ⟨h, _⟩ | ⟨_, h⟩
        · rw [hL] at h; cases h
        · rw [hlsN, hlsX, hA, Int.toNat_natCast] at h
          exact h
      have HC2 := Lib.hid hcs
      have HLN := Lib.hid hlsN
      have HLX := Lib.hid hlsX
      have HA := Lib.hid hA
      clear hcs hlsN hlsX hL hM hM4 hT hA HCS hMM
      have hMz : (MM == 0) = false := beq_eq_false_iff_ne.mpr (by omega)
      go_wp2_with fail
      go_at_call 115
      refine (relem_spec t _).mono ?_
      rw [HV.out, HMV.out]
      rintro e w9 ⟨rfl, rfl⟩
      skip
      go_wp2_with fail
      go_at_call 65
      refine (rtarget_spec A _ c p q t V l _ HL.out (by omega)).mono ?_
      rintro e w3 ⟨rfl, hb⟩
      clear x0 x1 x2 x3; replace HB := Lib.hid (pure_below HB.out hb); replace HX := Lib.hid (HX.out.pure hb); replace HL := Lib.hid (HL.out.pure hb); clear hb; have x0 := cell0 HX.out; have x1 := cell1 HX.out; have x2 := cell2 HX.out; have x3 := cell3 HX.out
      rcases HC2.out with ⟨h1, he⟩ | ⟨h1, hcs⟩
      · have hne : (tgtE l p q t V != 0) = true := by simpa using h1
        have HE := Lib.hid he
        have HN := Lib.hid h1
        clear h1 he HC2
        go_wp2
        refine bodyPost_ret (v := .tuple #[.int .i64 0, .int .i64 0, .int .i64 0, .int .i64 0, .int .i64 (tgtE l p q t V)]) (by simp [results, Tryz.results114, go_sem]) rfl ?_
        exact rsw_no HE.out HN.out HB.out
      · have htr := tgt_rl h1
        rw [h1]
        obtain ⟨b, hb0⟩ : ∃ b : Nat, tgt l p q t V = b := ⟨(tgt l p q t V).toNat, by omega⟩
        rw [hb0, Int.toNat_natCast] at hcs
        have hbl : b ≤ l.length := by omega
        have HB0 := Lib.hid hb0
        rw [hb0]
        clear h1 hb0 htr HC2
        rcases hcs with ⟨h5, he⟩ | ⟨h5, h6, he⟩ | ⟨h5, h6, h7, he⟩ | ⟨h5, h6, h7, he⟩
        · have hm2 : ((b : Int) % (V : Int) != 0) = true := by simpa using h5
          have HE := Lib.hid he
          have HN := Lib.hid (show (212 : Int) ≠ 0 by decide)
          clear h5 he
          go_wp2
          refine bodyPost_ret (v := .tuple #[.int .i64 0, .int .i64 0, .int .i64 0, .int .i64 0, .int .i64 212]) (by simp [results, Tryz.results114, go_sem]) rfl ?_
          exact rsw_no HE.out HN.out HB.out
        · have hm2 : ((b : Int) % (V : Int) != 0) = false := by simpa using h5
          have HE := Lib.hid he
          have HN := Lib.hid (show (211 : Int) ≠ 0 by decide)
          clear h5 he
          first
            | (exfalso; omega)
            | skip
          all_goals
            (have hsum1 := True; have hsum2 := True)
            go_wp2_with fail
            go_quiet ((go_at_call 103; exact Calls.quiet_of_same (ahead_q HA.out)))
            clear hsum1 hsum2
            clear x0 x1 x2 x3
            replace HB := Lib.hid (below_drewN HB.out nq)
            replace HX := Lib.hid (blk_drewN HX.out nq)
            replace HL := Lib.hid (HL.out.drewN nq)
            generalize w3.drewN nq = w4 at HB HX HL ⊢
            have x0 := cell0 HX.out; have x1 := cell1 HX.out; have x2 := cell2 HX.out; have x3 := cell3 HX.out
            go_wp2
            refine bodyPost_ret (v := .tuple #[.int .i64 0, .int .i64 0, .int .i64 0, .int .i64 0, .int .i64 211]) (by simp [results, Tryz.results114, go_sem]) rfl ?_
            exact rsw_no HE.out HN.out HB.out
        · have hm2 : ((b : Int) % (V : Int) != 0) = false := by simpa using h5
          have HE := Lib.hid he
          have HN := Lib.hid (show (211 : Int) ≠ 0 by decide)
          clear h5 he
          have hqc : (l.length - b) / (V + 0) < MM := (div_lt_iff (by omega) hbl).2 h7
          (have hsum1 := True; have hsum2 := True)
          go_wp2_with fail
          go_quiet ((go_at_call 103; exact Calls.quiet_of_same (ahead_q HA.out)))
          clear hsum1 hsum2
          clear x0 x1 x2 x3
          replace HB := Lib.hid (below_drewN HB.out nq)
          replace HX := Lib.hid (blk_drewN HX.out nq)
          replace HL := Lib.hid (HL.out.drewN nq)
          generalize w3.drewN nq = w4 at HB HX HL ⊢
          have x0 := cell0 HX.out; have x1 := cell1 HX.out; have x2 := cell2 HX.out; have x3 := cell3 HX.out
          obtain ⟨D, hD⟩ : ∃ D, l.length - b = D := ⟨_, rfl⟩
          obtain ⟨Q, hQ⟩ : ∃ Q, D / (V + 0) = Q := ⟨_, rfl⟩
          have HQ1 := Lib.hid (len_wrap hD hbl hn)
          have HQ2 := Lib.hid (quo_wrap0 hQ (by omega))
          rw [hD, hQ] at hqc
          clear hD hQ
          have hqd := decide_eq_true hqc
          go_wp2_with fail
          skip
          go_at_call 104
          refine (tags_spec t _).mono ?_
          rw [HTB.out]
          rintro e w9 ⟨rfl, rfl⟩
          have hq1 := HQ1.out
          have hq2 := HQ2.out
          go_wp2
          refine bodyPost_ret (v := .tuple #[.int .i64 0, .int .i64 0, .int .i64 0, .int .i64 0, .int .i64 211]) (by simp [results, Tryz.results114, go_sem]) rfl ?_
          exact rsw_no HE.out HN.out HB.out
        · have hm2 : ((b : Int) % (V : Int) != 0) = false := by simpa using h5
          have HE := Lib.hid he
          clear h5 he
          have hqc : ¬ (l.length - b) / (V + 0) < MM := fun h => Nat.not_lt.mpr h7 ((div_lt_iff (by omega) hbl).1 h)
          have hN0 : MM ≤ MM * (V + 0) := Nat.le_mul_of_pos_right _ (by omega)
          have hNl : MM ≤ 1099511627776 := by omega
          obtain ⟨X, hX⟩ : ∃ X, MM * (V + 0) = X := ⟨_, rfl⟩
          rw [hX] at h7 hN0
          have HMUL := Lib.hid (mul_wrap0 MM V X hX (by omega))
          have HXX := Lib.hid hX
          clear hX
          have hbx1 : (b : Int) + X ≤ 1099511627776 := by omega
          (have hsum1 := True; have hsum2 := True)
          go_wp2_with fail
          go_quiet ((go_at_call 103; exact Calls.quiet_of_same (ahead_q HA.out)))
          clear hsum1 hsum2
          clear x0 x1 x2 x3
          replace HB := Lib.hid (below_drewN HB.out nq)
          replace HX := Lib.hid (blk_drewN HX.out nq)
          replace HL := Lib.hid (HL.out.drewN nq)
          generalize w3.drewN nq = w4 at HB HX HL ⊢
          have x0 := cell0 HX.out; have x1 := cell1 HX.out; have x2 := cell2 HX.out; have x3 := cell3 HX.out
          obtain ⟨D, hD⟩ : ∃ D, l.length - b = D := ⟨_, rfl⟩
          obtain ⟨Q, hQ⟩ : ∃ Q, D / (V + 0) = Q := ⟨_, rfl⟩
          have HQ1 := Lib.hid (len_wrap hD hbl hn)
          have HQ2 := Lib.hid (quo_wrap0 hQ (by omega))
          rw [hD, hQ] at hqc
          clear hD hQ
          have hqd := decide_eq_false hqc
          go_wp2_with fail
          skip
          go_at_call 104
          refine (tags_spec t _).mono ?_
          rw [HTB.out]
          rintro e w9 ⟨rfl, rfl⟩
          have hq1 := HQ1.out
          have hq2 := HQ2.out
          have hmul := HMUL.out
          go_wp2
          clear hmul hq1 hq2
          refine bodyPost_ret (v := .tuple #[.int .i64 (b : Int), .int .i64 b, .int .i64 ((b : Int) + X), .int .i64 MM, .int .i64 0]) (by simp [results, Tryz.results114, go_sem]) rfl ?_
          rw [← Int.natCast_add]
          exact rsw_yes HE.out (by rw [HB0.out, Int.toNat_natCast]) (by rw [HA.out, Int.toNat_natCast]; try omega) HLN.out (by rw [HLX.out, HXX.out]) HB.out
    · have hcs : (tgtE l p q t V ≠ 0 ∧ lsE l p q t V = tgtE l p q t V) ∨ (tgtE l p q t V = 0 ∧
          ((tgt l p q t V % V ≠ 0 ∧ lsE l p q t V = 212) ∨ (tgt l p q t V % V = 0 ∧ (tgt l p q t V).toNat < aheadT t * V ∧ lsE l p q t V = 211) ∨
          (tgt l p q t V % V = 0 ∧ aheadT t * V ≤ (tgt l p q t V).toNat ∧ l.length < (tgt l p q t V).toNat + lsN l p q t V * (V + tgs t) ∧ lsE l p q t V = 211) ∨
          (tgt l p q t V % V = 0 ∧ aheadT t * V ≤ (tgt l p q t V).toNat ∧ (tgt l p q t V).toNat + lsN l p q t V * (V + tgs t) ≤ l.length ∧ lsE l p q t V = 0))) := by
        rcases HCS.out with ⟨h, _⟩ | ⟨_, h⟩
        · rw [hL] at h; cases h
        · unfold lsX at h
          rw [Int.toNat_natCast] at h
          exact h
      have hNu : lsN l p q t V = loadU l (tgt l p q t V - V) V := by unfold lsN; rw [if_neg (by omega)]
      obtain ⟨U, hU⟩ : ∃ U, lsN l p q t V = U := ⟨_, rfl⟩
      have HLN := Lib.hid hU
      have HNU := Lib.hid (hNu.symm.trans hU)
      rw [hU] at hcs
      have hsp : (aheadT t = 1 ∧ tgs t = 0 ∧ tagT t = false) ∨ (aheadT t = 1 ∧ tgs t = 1 ∧ tagT t = true) ∨ (aheadT t = 3 ∧ tgs t = 1 ∧ tagT t = true) := ahead_cases hA hM
      have HMV := Lib.hid hM
      have hLL := hL
      clear hU hNu hL hM hA HCS
      rcases hsp with ⟨hA, hT, hT2⟩ | ⟨hA, hT, hT2⟩ | ⟨hA, hT, hT2⟩
      · rw [hA, hT] at hcs
        have HC2 := Lib.hid hcs
        have HLX := Lib.hid (show lsX t V = V + 0 by unfold lsX; rw [hT]; rfl)
        have HA := Lib.hid hA
        have HTB := Lib.hid hT2
        have HV := Lib.hid (show vecT t = true by unfold isL at hLL; unfold tagT at hT2; rw [hT2, Bool.false_or] at hLL; exact hLL)
        clear hcs hA hT hT2 hLL
        go_wp2_with fail
        go_at_call 115
        refine (relem_spec t _).mono ?_
        rw [HV.out, HMV.out]
        rintro e w9 ⟨rfl, rfl⟩
        skip
        go_wp2_with fail
        go_at_call 65
        refine (rtarget_spec A _ c p q t V l _ HL.out (by omega)).mono ?_
        rintro e w3 ⟨rfl, hb⟩
        clear x0 x1 x2 x3; replace HB := Lib.hid (pure_below HB.out hb); replace HX := Lib.hid (HX.out.pure hb); replace HL := Lib.hid (HL.out.pure hb); clear hb; have x0 := cell0 HX.out; have x1 := cell1 HX.out; have x2 := cell2 HX.out; have x3 := cell3 HX.out
        rcases HC2.out with ⟨h1, he⟩ | ⟨h1, hcs⟩
        · have hne : (tgtE l p q t V != 0) = true := by simpa using h1
          have HE := Lib.hid he
          have HN := Lib.hid h1
          clear h1 he HC2
          go_wp2
          refine bodyPost_ret (v := .tuple #[.int .i64 0, .int .i64 0, .int .i64 0, .int .i64 0, .int .i64 (tgtE l p q t V)]) (by simp [results, Tryz.results114, go_sem]) rfl ?_
          exact rsw_no HE.out HN.out HB.out
        · have htr := tgt_rl h1
          rw [h1]
          obtain ⟨b, hb0⟩ : ∃ b : Nat, tgt l p q t V = b := ⟨(tgt l p q t V).toNat, by omega⟩
          rw [hb0, Int.toNat_natCast] at hcs
          have hbl : b ≤ l.length := by omega
          have HB0 := Lib.hid hb0
          rw [hb0]
          clear h1 hb0 htr HC2
          rcases hcs with ⟨h5, he⟩ | ⟨h5, h6, he⟩ | ⟨h5, h6, h7, he⟩ | ⟨h5, h6, h7, he⟩
          · have hm2 : ((b : Int) % (V : Int) != 0) = true := by simpa using h5
            have HE := Lib.hid he
            have HN := Lib.hid (show (212 : Int) ≠ 0 by decide)
            clear h5 he
            go_wp2
            refine bodyPost_ret (v := .tuple #[.int .i64 0, .int .i64 0, .int .i64 0, .int .i64 0, .int .i64 212]) (by simp [results, Tryz.results114, go_sem]) rfl ?_
            exact rsw_no HE.out HN.out HB.out
          · have hm2 : ((b : Int) % (V : Int) != 0) = false := by simpa using h5
            have HE := Lib.hid he
            have HN := Lib.hid (show (211 : Int) ≠ 0 by decide)
            clear h5 he
            first
              | (exfalso; omega)
              | skip
            all_goals
              (have hsum : IntKind.i64.wrap (V : Int) = V ∧ IntKind.i64.wrap ((b : Int) - (V : Int)) = (b : Int) - V := ⟨IntWalk.i64_in _ (by omega), IntWalk.i64_in _ (by omega)⟩; have hsum1 := hsum.1; have hsum2 := hsum.2; clear hsum)
              go_wp2_with fail
              go_quiet ((go_at_call 103; exact Calls.quiet_of_same (ahead_q HA.out)))
              clear hsum1 hsum2
              clear x0 x1 x2 x3
              replace HB := Lib.hid (below_drewN HB.out nq)
              replace HX := Lib.hid (blk_drewN HX.out nq)
              replace HL := Lib.hid (HL.out.drewN nq)
              generalize w3.drewN nq = w4 at HB HX HL ⊢
              have x0 := cell0 HX.out; have x1 := cell1 HX.out; have x2 := cell2 HX.out; have x3 := cell3 HX.out
              go_wp2
              refine bodyPost_ret (v := .tuple #[.int .i64 0, .int .i64 0, .int .i64 0, .int .i64 0, .int .i64 211]) (by simp [results, Tryz.results114, go_sem]) rfl ?_
              exact rsw_no HE.out HN.out HB.out
          · have hm2 : ((b : Int) % (V : Int) != 0) = false := by simpa using h5
            have HE := Lib.hid he
            have HN := Lib.hid (show (211 : Int) ≠ 0 by decide)
            clear h5 he
            have hqc : (l.length - b) / (V + 0) < U := (div_lt_iff (by omega) hbl).2 h7
            (have hsum : IntKind.i64.wrap (V : Int) = V ∧ IntKind.i64.wrap ((b : Int) - (V : Int)) = (b : Int) - V := ⟨IntWalk.i64_in _ (by omega), IntWalk.i64_in _ (by omega)⟩; have hsum1 := hsum.1; have hsum2 := hsum.2; clear hsum)
            go_wp2_with fail
            go_quiet ((go_at_call 103; exact Calls.quiet_of_same (ahead_q HA.out)))
            clear hsum1 hsum2
            clear x0 x1 x2 x3
            replace HB := Lib.hid (below_drewN HB.out nq)
            replace HX := Lib.hid (blk_drewN HX.out nq)
            replace HL := Lib.hid (HL.out.drewN nq)
            generalize w3.drewN nq = w4 at HB HX HL ⊢
            have x0 := cell0 HX.out; have x1 := cell1 HX.out; have x2 := cell2 HX.out; have x3 := cell3 HX.out
            obtain ⟨D, hD⟩ : ∃ D, l.length - b = D := ⟨_, rfl⟩
            obtain ⟨Q, hQ⟩ : ∃ Q, D / (V + 0) = Q := ⟨_, rfl⟩
            have HQ1 := Lib.hid (len_wrap hD hbl hn)
            have HQ2 := Lib.hid (quo_wrap0 hQ (by omega))
            rw [hD, hQ] at hqc
            clear hD hQ
            have hqd := decide_eq_true hqc
            go_wp2_with fail
            (go_at_call 99; refine (rload_spec2 A _ c ((b : Int) - V) V l _ (loadE l.length ((b : Int) - V) V) U HL.out (by omega) rfl (by rw [← HB0.out]; exact HNU.out)).mono ?_; rintro e w8 ⟨rfl, hb⟩; clear x0 x1 x2 x3; replace HB := Lib.hid (pure_below HB.out hb); replace HX := Lib.hid (HX.out.pure hb); replace HL := Lib.hid (HL.out.pure hb); clear hb; have x0 := cell0 HX.out; have x1 := cell1 HX.out; have x2 := cell2 HX.out; have x3 := cell3 HX.out; go_wp2_with fail)
            go_at_call 104
            refine (tags_spec t _).mono ?_
            rw [HTB.out]
            rintro e w9 ⟨rfl, rfl⟩
            have hq1 := HQ1.out
            have hq2 := HQ2.out
            go_wp2
            refine bodyPost_ret (v := .tuple #[.int .i64 0, .int .i64 0, .int .i64 0, .int .i64 0, .int .i64 211]) (by simp [results, Tryz.results114, go_sem]) rfl ?_
            exact rsw_no HE.out HN.out HB.out
          · have hm2 : ((b : Int) % (V : Int) != 0) = false := by simpa using h5
            have HE := Lib.hid he
            clear h5 he
            have hqc : ¬ (l.length - b) / (V + 0) < U := fun h => Nat.not_lt.mpr h7 ((div_lt_iff (by omega) hbl).1 h)
            have hN0 : U ≤ U * (V + 0) := Nat.le_mul_of_pos_right _ (by omega)
            have hNl : U ≤ 1099511627776 := by omega
            obtain ⟨X, hX⟩ : ∃ X, U * (V + 0) = X := ⟨_, rfl⟩
            rw [hX] at h7 hN0
            have HMUL := Lib.hid (mul_wrap0 U V X hX (by omega))
            have HXX := Lib.hid hX
            clear hX
            have hbx1 : (b : Int) + X ≤ 1099511627776 := by omega
            (have hsum : IntKind.i64.wrap (V : Int) = V ∧ IntKind.i64.wrap ((b : Int) - (V : Int)) = (b : Int) - V := ⟨IntWalk.i64_in _ (by omega), IntWalk.i64_in _ (by omega)⟩; have hsum1 := hsum.1; have hsum2 := hsum.2; clear hsum)
            go_wp2_with fail
            go_quiet ((go_at_call 103; exact Calls.quiet_of_same (ahead_q HA.out)))
            clear hsum1 hsum2
            clear x0 x1 x2 x3
            replace HB := Lib.hid (below_drewN HB.out nq)
            replace HX := Lib.hid (blk_drewN HX.out nq)
            replace HL := Lib.hid (HL.out.drewN nq)
            generalize w3.drewN nq = w4 at HB HX HL ⊢
            have x0 := cell0 HX.out; have x1 := cell1 HX.out; have x2 := cell2 HX.out; have x3 := cell3 HX.out
            obtain ⟨D, hD⟩ : ∃ D, l.length - b = D := ⟨_, rfl⟩
            obtain ⟨Q, hQ⟩ : ∃ Q, D / (V + 0) = Q := ⟨_, rfl⟩
            have HQ1 := Lib.hid (len_wrap hD hbl hn)
            have HQ2 := Lib.hid (quo_wrap0 hQ (by omega))
            rw [hD, hQ] at hqc
            clear hD hQ
            have hqd := decide_eq_false hqc
            go_wp2_with fail
            (go_at_call 99; refine (rload_spec2 A _ c ((b : Int) - V) V l _ (loadE l.length ((b : Int) - V) V) U HL.out (by omega) rfl (by rw [← HB0.out]; exact HNU.out)).mono ?_; rintro e w8 ⟨rfl, hb⟩; clear x0 x1 x2 x3; replace HB := Lib.hid (pure_below HB.out hb); replace HX := Lib.hid (HX.out.pure hb); replace HL := Lib.hid (HL.out.pure hb); clear hb; have x0 := cell0 HX.out; have x1 := cell1 HX.out; have x2 := cell2 HX.out; have x3 := cell3 HX.out; go_wp2_with fail)
            go_at_call 104
            refine (tags_spec t _).mono ?_
            rw [HTB.out]
            rintro e w9 ⟨rfl, rfl⟩
            have hq1 := HQ1.out
            have hq2 := HQ2.out
            have hmul := HMUL.out
            go_wp2
            clear hmul hq1 hq2
            refine bodyPost_ret (v := .tuple #[.int .i64 ((b : Int) - V), .int .i64 b, .int .i64 ((b : Int) + X), .int .i64 U, .int .i64 0]) (by simp [results, Tryz.results114, go_sem]) rfl ?_
            rw [show ((b : Int) - V) = ((b - 1 * V : Nat) : Int) by omega, ← Int.natCast_add]
            exact rsw_yes HE.out (by rw [HB0.out, Int.toNat_natCast]) (by rw [HA.out, Int.toNat_natCast]; try omega) HLN.out (by rw [HLX.out, HXX.out]) HB.out
      · rw [hA, hT] at hcs
        have HC2 := Lib.hid hcs
        have HLX := Lib.hid (show lsX t V = V + 1 by unfold lsX; rw [hT]; rfl)
        have HA := Lib.hid hA
        have HTB := Lib.hid hT2
        have HV := Lib.hid (tag_vec hT2)
        clear hcs hA hT hT2 hLL
        go_wp2_with fail
        go_at_call 115
        refine (relem_spec t _).mono ?_
        rw [HV.out, HMV.out]
        rintro e w9 ⟨rfl, rfl⟩
        (go_wp2_with fail; go_at_call 104; refine (tags_spec t _).mono ?_; rw [HTB.out]; rintro e w9 ⟨rfl, rfl⟩)
        go_wp2_with fail
        go_at_call 65
        refine (rtarget_spec A _ c p q t V l _ HL.out (by omega)).mono ?_
        rintro e w3 ⟨rfl, hb⟩
        clear x0 x1 x2 x3; replace HB := Lib.hid (pure_below HB.out hb); replace HX := Lib.hid (HX.out.pure hb); replace HL := Lib.hid (HL.out.pure hb); clear hb; have x0 := cell0 HX.out; have x1 := cell1 HX.out; have x2 := cell2 HX.out; have x3 := cell3 HX.out
        rcases HC2.out with ⟨h1, he⟩ | ⟨h1, hcs⟩
        · have hne : (tgtE l p q t V != 0) = true := by simpa using h1
          have HE := Lib.hid he
          have HN := Lib.hid h1
          clear h1 he HC2
          go_wp2
          refine bodyPost_ret (v := .tuple #[.int .i64 0, .int .i64 0, .int .i64 0, .int .i64 0, .int .i64 (tgtE l p q t V)]) (by simp [results, Tryz.results114, go_sem]) rfl ?_
          exact rsw_no HE.out HN.out HB.out
        · have htr := tgt_rl h1
          rw [h1]
          obtain ⟨b, hb0⟩ : ∃ b : Nat, tgt l p q t V = b := ⟨(tgt l p q t V).toNat, by omega⟩
          rw [hb0, Int.toNat_natCast] at hcs
          have hbl : b ≤ l.length := by omega
          have HB0 := Lib.hid hb0
          rw [hb0]
          clear h1 hb0 htr HC2
          rcases hcs with ⟨h5, he⟩ | ⟨h5, h6, he⟩ | ⟨h5, h6, h7, he⟩ | ⟨h5, h6, h7, he⟩
          · have hm2 : ((b : Int) % (V : Int) != 0) = true := by simpa using h5
            have HE := Lib.hid he
            have HN := Lib.hid (show (212 : Int) ≠ 0 by decide)
            clear h5 he
            go_wp2
            refine bodyPost_ret (v := .tuple #[.int .i64 0, .int .i64 0, .int .i64 0, .int .i64 0, .int .i64 212]) (by simp [results, Tryz.results114, go_sem]) rfl ?_
            exact rsw_no HE.out HN.out HB.out
          · have hm2 : ((b : Int) % (V : Int) != 0) = false := by simpa using h5
            have HE := Lib.hid he
            have HN := Lib.hid (show (211 : Int) ≠ 0 by decide)
            clear h5 he
            first
              | (exfalso; omega)
              | skip
            all_goals
              (have hsum : IntKind.i64.wrap (V : Int) = V ∧ IntKind.i64.wrap ((b : Int) - (V : Int)) = (b : Int) - V := ⟨IntWalk.i64_in _ (by omega), IntWalk.i64_in _ (by omega)⟩; have hsum1 := hsum.1; have hsum2 := hsum.2; clear hsum)
              go_wp2_with fail
              go_quiet ((go_at_call 103; exact Calls.quiet_of_same (ahead_q HA.out)))
              clear hsum1 hsum2
              clear x0 x1 x2 x3
              replace HB := Lib.hid (below_drewN HB.out nq)
              replace HX := Lib.hid (blk_drewN HX.out nq)
              replace HL := Lib.hid (HL.out.drewN nq)
              generalize w3.drewN nq = w4 at HB HX HL ⊢
              have x0 := cell0 HX.out; have x1 := cell1 HX.out; have x2 := cell2 HX.out; have x3 := cell3 HX.out
              go_wp2
              refine bodyPost_ret (v := .tuple #[.int .i64 0, .int .i64 0, .int .i64 0, .int .i64 0, .int .i64 211]) (by simp [results, Tryz.results114, go_sem]) rfl ?_
              exact rsw_no HE.out HN.out HB.out
          · have hm2 : ((b : Int) % (V : Int) != 0) = false := by simpa using h5
            have HE := Lib.hid he
            have HN := Lib.hid (show (211 : Int) ≠ 0 by decide)
            clear h5 he
            have hqc : (l.length - b) / (V + 1) < U := (div_lt_iff (by omega) hbl).2 h7
            (have hsum : IntKind.i64.wrap (V : Int) = V ∧ IntKind.i64.wrap ((b : Int) - (V : Int)) = (b : Int) - V := ⟨IntWalk.i64_in _ (by omega), IntWalk.i64_in _ (by omega)⟩; have hsum1 := hsum.1; have hsum2 := hsum.2; clear hsum)
            go_wp2_with fail
            go_quiet ((go_at_call 103; exact Calls.quiet_of_same (ahead_q HA.out)))
            clear hsum1 hsum2
            clear x0 x1 x2 x3
            replace HB := Lib.hid (below_drewN HB.out nq)
            replace HX := Lib.hid (blk_drewN HX.out nq)
            replace HL := Lib.hid (HL.out.drewN nq)
            generalize w3.drewN nq = w4 at HB HX HL ⊢
            have x0 := cell0 HX.out; have x1 := cell1 HX.out; have x2 := cell2 HX.out; have x3 := cell3 HX.out
            obtain ⟨D, hD⟩ : ∃ D, l.length - b = D := ⟨_, rfl⟩
            obtain ⟨Q, hQ⟩ : ∃ Q, D / (V + 1) = Q := ⟨_, rfl⟩
            have HQ1 := Lib.hid (len_wrap hD hbl hn)
            have HQ2 := Lib.hid (quo_wrap1 hQ (by omega))
            rw [hD, hQ] at hqc
            clear hD hQ
            have hqd := decide_eq_true hqc
            go_wp2_with fail
            (go_at_call 99; refine (rload_spec2 A _ c ((b : Int) - V) V l _ (loadE l.length ((b : Int) - V) V) U HL.out (by omega) rfl (by rw [← HB0.out]; exact HNU.out)).mono ?_; rintro e w8 ⟨rfl, hb⟩; clear x0 x1 x2 x3; replace HB := Lib.hid (pure_below HB.out hb); replace HX := Lib.hid (HX.out.pure hb); replace HL := Lib.hid (HL.out.pure hb); clear hb; have x0 := cell0 HX.out; have x1 := cell1 HX.out; have x2 := cell2 HX.out; have x3 := cell3 HX.out; go_wp2_with fail)
            go_at_call 104
            refine (tags_spec t _).mono ?_
            rw [HTB.out]
            rintro e w9 ⟨rfl, rfl⟩
            have hq1 := HQ1.out
            have hq2 := HQ2.out
            go_wp2
            refine bodyPost_ret (v := .tuple #[.int .i64 0, .int .i64 0, .int .i64 0, .int .i64 0, .int .i64 211]) (by simp [results, Tryz.results114, go_sem]) rfl ?_
            exact rsw_no HE.out HN.out HB.out
          · have hm2 : ((b : Int) % (V : Int) != 0) = false := by simpa using h5
            have HE := Lib.hid he
            clear h5 he
            have hqc : ¬ (l.length - b) / (V + 1) < U := fun h => Nat.not_lt.mpr h7 ((div_lt_iff (by omega) hbl).1 h)
            have hN0 : U ≤ U * (V + 1) := Nat.le_mul_of_pos_right _ (by omega)
            have hNl : U ≤ 1099511627776 := by omega
            obtain ⟨X, hX⟩ : ∃ X, U * (V + 1) = X := ⟨_, rfl⟩
            rw [hX] at h7 hN0
            have HMUL := Lib.hid (mul_wrap1 U V X hX (by omega))
            have HXX := Lib.hid hX
            clear hX
            have hbx1 : (b : Int) + X ≤ 1099511627776 := by omega
            (have hsum : IntKind.i64.wrap (V : Int) = V ∧ IntKind.i64.wrap ((b : Int) - (V : Int)) = (b : Int) - V := ⟨IntWalk.i64_in _ (by omega), IntWalk.i64_in _ (by omega)⟩; have hsum1 := hsum.1; have hsum2 := hsum.2; clear hsum)
            go_wp2_with fail
            go_quiet ((go_at_call 103; exact Calls.quiet_of_same (ahead_q HA.out)))
            clear hsum1 hsum2
            clear x0 x1 x2 x3
            replace HB := Lib.hid (below_drewN HB.out nq)
            replace HX := Lib.hid (blk_drewN HX.out nq)
            replace HL := Lib.hid (HL.out.drewN nq)
            generalize w3.drewN nq = w4 at HB HX HL ⊢
            have x0 := cell0 HX.out; have x1 := cell1 HX.out; have x2 := cell2 HX.out; have x3 := cell3 HX.out
            obtain ⟨D, hD⟩ : ∃ D, l.length - b = D := ⟨_, rfl⟩
            obtain ⟨Q, hQ⟩ : ∃ Q, D / (V + 1) = Q := ⟨_, rfl⟩
            have HQ1 := Lib.hid (len_wrap hD hbl hn)
            have HQ2 := Lib.hid (quo_wrap1 hQ (by omega))
            rw [hD, hQ] at hqc
            clear hD hQ
            have hqd := decide_eq_false hqc
            go_wp2_with fail
            (go_at_call 99; refine (rload_spec2 A _ c ((b : Int) - V) V l _ (loadE l.length ((b : Int) - V) V) U HL.out (by omega) rfl (by rw [← HB0.out]; exact HNU.out)).mono ?_; rintro e w8 ⟨rfl, hb⟩; clear x0 x1 x2 x3; replace HB := Lib.hid (pure_below HB.out hb); replace HX := Lib.hid (HX.out.pure hb); replace HL := Lib.hid (HL.out.pure hb); clear hb; have x0 := cell0 HX.out; have x1 := cell1 HX.out; have x2 := cell2 HX.out; have x3 := cell3 HX.out; go_wp2_with fail)
            go_at_call 104
            refine (tags_spec t _).mono ?_
            rw [HTB.out]
            rintro e w9 ⟨rfl, rfl⟩
            have hq1 := HQ1.out
            have hq2 := HQ2.out
            have hmul := HMUL.out
            go_wp2
            clear hmul hq1 hq2
            refine bodyPost_ret (v := .tuple #[.int .i64 ((b : Int) - V), .int .i64 b, .int .i64 ((b : Int) + X), .int .i64 U, .int .i64 0]) (by simp [results, Tryz.results114, go_sem]) rfl ?_
            rw [show ((b : Int) - V) = ((b - 1 * V : Nat) : Int) by omega, ← Int.natCast_add]
            exact rsw_yes HE.out (by rw [HB0.out, Int.toNat_natCast]) (by rw [HA.out, Int.toNat_natCast]; try omega) HLN.out (by rw [HLX.out, HXX.out]) HB.out
      · rw [hA, hT] at hcs
        have HC2 := Lib.hid hcs
        have HLX := Lib.hid (show lsX t V = V + 1 by unfold lsX; rw [hT]; rfl)
        have HA := Lib.hid hA
        have HTB := Lib.hid hT2
        have HV := Lib.hid (tag_vec hT2)
        clear hcs hA hT hT2 hLL
        go_wp2_with fail
        go_at_call 115
        refine (relem_spec t _).mono ?_
        rw [HV.out, HMV.out]
        rintro e w9 ⟨rfl, rfl⟩
        (go_wp2_with fail; go_at_call 104; refine (tags_spec t _).mono ?_; rw [HTB.out]; rintro e w9 ⟨rfl, rfl⟩)
        go_wp2_with fail
        go_at_call 65
        refine (rtarget_spec A _ c p q t V l _ HL.out (by omega)).mono ?_
        rintro e w3 ⟨rfl, hb⟩
        clear x0 x1 x2 x3; replace HB := Lib.hid (pure_below HB.out hb); replace HX := Lib.hid (HX.out.pure hb); replace HL := Lib.hid (HL.out.pure hb); clear hb; have x0 := cell0 HX.out; have x1 := cell1 HX.out; have x2 := cell2 HX.out; have x3 := cell3 HX.out
        rcases HC2.out with ⟨h1, he⟩ | ⟨h1, hcs⟩
        · have hne : (tgtE l p q t V != 0) = true := by simpa using h1
          have HE := Lib.hid he
          have HN := Lib.hid h1
          clear h1 he HC2
          go_wp2
          refine bodyPost_ret (v := .tuple #[.int .i64 0, .int .i64 0, .int .i64 0, .int .i64 0, .int .i64 (tgtE l p q t V)]) (by simp [results, Tryz.results114, go_sem]) rfl ?_
          exact rsw_no HE.out HN.out HB.out
        · have htr := tgt_rl h1
          rw [h1]
          obtain ⟨b, hb0⟩ : ∃ b : Nat, tgt l p q t V = b := ⟨(tgt l p q t V).toNat, by omega⟩
          rw [hb0, Int.toNat_natCast] at hcs
          have hbl : b ≤ l.length := by omega
          have HB0 := Lib.hid hb0
          rw [hb0]
          clear h1 hb0 htr HC2
          rcases hcs with ⟨h5, he⟩ | ⟨h5, h6, he⟩ | ⟨h5, h6, h7, he⟩ | ⟨h5, h6, h7, he⟩
          · have hm2 : ((b : Int) % (V : Int) != 0) = true := by simpa using h5
            have HE := Lib.hid he
            have HN := Lib.hid (show (212 : Int) ≠ 0 by decide)
            clear h5 he
            go_wp2
            refine bodyPost_ret (v := .tuple #[.int .i64 0, .int .i64 0, .int .i64 0, .int .i64 0, .int .i64 212]) (by simp [results, Tryz.results114, go_sem]) rfl ?_
            exact rsw_no HE.out HN.out HB.out
          · have hm2 : ((b : Int) % (V : Int) != 0) = false := by simpa using h5
            have HE := Lib.hid he
            have HN := Lib.hid (show (211 : Int) ≠ 0 by decide)
            clear h5 he
            first
              | (exfalso; omega)
              | skip
            all_goals
              (have hsum : IntKind.i64.wrap (3 * (V : Int)) = 3 * V ∧ IntKind.i64.wrap ((b : Int) - 3 * (V : Int)) = (b : Int) - 3 * V := ⟨IntWalk.i64_in _ (by omega), IntWalk.i64_in _ (by omega)⟩; have hsum1 := hsum.1; have hsum2 := hsum.2; clear hsum)
              go_wp2_with fail
              go_quiet ((go_at_call 103; exact Calls.quiet_of_same (ahead_q HA.out)))
              clear hsum1 hsum2
              clear x0 x1 x2 x3
              replace HB := Lib.hid (below_drewN HB.out nq)
              replace HX := Lib.hid (blk_drewN HX.out nq)
              replace HL := Lib.hid (HL.out.drewN nq)
              generalize w3.drewN nq = w4 at HB HX HL ⊢
              have x0 := cell0 HX.out; have x1 := cell1 HX.out; have x2 := cell2 HX.out; have x3 := cell3 HX.out
              go_wp2
              refine bodyPost_ret (v := .tuple #[.int .i64 0, .int .i64 0, .int .i64 0, .int .i64 0, .int .i64 211]) (by simp [results, Tryz.results114, go_sem]) rfl ?_
              exact rsw_no HE.out HN.out HB.out
          · have hm2 : ((b : Int) % (V : Int) != 0) = false := by simpa using h5
            have HE := Lib.hid he
            have HN := Lib.hid (show (211 : Int) ≠ 0 by decide)
            clear h5 he
            have hqc : (l.length - b) / (V + 1) < U := (div_lt_iff (by omega) hbl).2 h7
            (have hsum : IntKind.i64.wrap (3 * (V : Int)) = 3 * V ∧ IntKind.i64.wrap ((b : Int) - 3 * (V : Int)) = (b : Int) - 3 * V := ⟨IntWalk.i64_in _ (by omega), IntWalk.i64_in _ (by omega)⟩; have hsum1 := hsum.1; have hsum2 := hsum.2; clear hsum)
            go_wp2_with fail
            go_quiet ((go_at_call 103; exact Calls.quiet_of_same (ahead_q HA.out)))
            clear hsum1 hsum2
            clear x0 x1 x2 x3
            replace HB := Lib.hid (below_drewN HB.out nq)
            replace HX := Lib.hid (blk_drewN HX.out nq)
            replace HL := Lib.hid (HL.out.drewN nq)
            generalize w3.drewN nq = w4 at HB HX HL ⊢
            have x0 := cell0 HX.out; have x1 := cell1 HX.out; have x2 := cell2 HX.out; have x3 := cell3 HX.out
            obtain ⟨D, hD⟩ : ∃ D, l.length - b = D := ⟨_, rfl⟩
            obtain ⟨Q, hQ⟩ : ∃ Q, D / (V + 1) = Q := ⟨_, rfl⟩
            have HQ1 := Lib.hid (len_wrap hD hbl hn)
            have HQ2 := Lib.hid (quo_wrap1 hQ (by omega))
            rw [hD, hQ] at hqc
            clear hD hQ
            have hqd := decide_eq_true hqc
            go_wp2_with fail
            (go_at_call 99; refine (rload_spec2 A _ c ((b : Int) - V) V l _ (loadE l.length ((b : Int) - V) V) U HL.out (by omega) rfl (by rw [← HB0.out]; exact HNU.out)).mono ?_; rintro e w8 ⟨rfl, hb⟩; clear x0 x1 x2 x3; replace HB := Lib.hid (pure_below HB.out hb); replace HX := Lib.hid (HX.out.pure hb); replace HL := Lib.hid (HL.out.pure hb); clear hb; have x0 := cell0 HX.out; have x1 := cell1 HX.out; have x2 := cell2 HX.out; have x3 := cell3 HX.out; go_wp2_with fail)
            go_at_call 104
            refine (tags_spec t _).mono ?_
            rw [HTB.out]
            rintro e w9 ⟨rfl, rfl⟩
            have hq1 := HQ1.out
            have hq2 := HQ2.out
            go_wp2
            refine bodyPost_ret (v := .tuple #[.int .i64 0, .int .i64 0, .int .i64 0, .int .i64 0, .int .i64 211]) (by simp [results, Tryz.results114, go_sem]) rfl ?_
            exact rsw_no HE.out HN.out HB.out
          · have hm2 : ((b : Int) % (V : Int) != 0) = false := by simpa using h5
            have HE := Lib.hid he
            clear h5 he
            have hqc : ¬ (l.length - b) / (V + 1) < U := fun h => Nat.not_lt.mpr h7 ((div_lt_iff (by omega) hbl).1 h)
            have hN0 : U ≤ U * (V + 1) := Nat.le_mul_of_pos_right _ (by omega)
            have hNl : U ≤ 1099511627776 := by omega
            obtain ⟨X, hX⟩ : ∃ X, U * (V + 1) = X := ⟨_, rfl⟩
            rw [hX] at h7 hN0
            have HMUL := Lib.hid (mul_wrap1 U V X hX (by omega))
            have HXX := Lib.hid hX
            clear hX
            have hbx1 : (b : Int) + X ≤ 1099511627776 := by omega
            (have hsum : IntKind.i64.wrap (3 * (V : Int)) = 3 * V ∧ IntKind.i64.wrap ((b : Int) - 3 * (V : Int)) = (b : Int) - 3 * V := ⟨IntWalk.i64_in _ (by omega), IntWalk.i64_in _ (by omega)⟩; have hsum1 := hsum.1; have hsum2 := hsum.2; clear hsum)
            go_wp2_with fail
            go_quiet ((go_at_call 103; exact Calls.quiet_of_same (ahead_q HA.out)))
            clear hsum1 hsum2
            clear x0 x1 x2 x3
            replace HB := Lib.hid (below_drewN HB.out nq)
            replace HX := Lib.hid (blk_drewN HX.out nq)
            replace HL := Lib.hid (HL.out.drewN nq)
            generalize w3.drewN nq = w4 at HB HX HL ⊢
            have x0 := cell0 HX.out; have x1 := cell1 HX.out; have x2 := cell2 HX.out; have x3 := cell3 HX.out
            obtain ⟨D, hD⟩ : ∃ D, l.length - b = D := ⟨_, rfl⟩
            obtain ⟨Q, hQ⟩ : ∃ Q, D / (V + 1) = Q := ⟨_, rfl⟩
            have HQ1 := Lib.hid (len_wrap hD hbl hn)
            have HQ2 := Lib.hid (quo_wrap1 hQ (by omega))
            rw [hD, hQ] at hqc
            clear hD hQ
            have hqd := decide_eq_false hqc
            go_wp2_with fail
            (go_at_call 99; refine (rload_spec2 A _ c ((b : Int) - V) V l _ (loadE l.length ((b : Int) - V) V) U HL.out (by omega) rfl (by rw [← HB0.out]; exact HNU.out)).mono ?_; rintro e w8 ⟨rfl, hb⟩; clear x0 x1 x2 x3; replace HB := Lib.hid (pure_below HB.out hb); replace HX := Lib.hid (HX.out.pure hb); replace HL := Lib.hid (HL.out.pure hb); clear hb; have x0 := cell0 HX.out; have x1 := cell1 HX.out; have x2 := cell2 HX.out; have x3 := cell3 HX.out; go_wp2_with fail)
            go_at_call 104
            refine (tags_spec t _).mono ?_
            rw [HTB.out]
            rintro e w9 ⟨rfl, rfl⟩
            have hq1 := HQ1.out
            have hq2 := HQ2.out
            have hmul := HMUL.out
            go_wp2
            clear hmul hq1 hq2
            refine bodyPost_ret (v := .tuple #[.int .i64 ((b : Int) - 3 * V), .int .i64 b, .int .i64 ((b : Int) + X), .int .i64 U, .int .i64 0]) (by simp [results, Tryz.results114, go_sem]) rfl ?_
            rw [show ((b : Int) - 3 * V) = ((b - 3 * V : Nat) : Int) by omega, ← Int.natCast_add]
            exact rsw_yes HE.out (by rw [HB0.out, Int.toNat_natCast]) (by rw [HA.out, Int.toNat_natCast]; try omega) HLN.out (by rw [HLX.out, HXX.out]) HB.out
end Go.Proofs.YtejalfjeihlpeaaGreat
