/-
  Package list: Span, Len.
  Package list's reference: Elem, Tags, Ahead.
-/
import Derived.Test.YtejalfjeihlpeaaGreatQ10
namespace Go.Proofs.YtejalfjeihlpeaaGreat
open Go.RowKit Go.Acc
theorem ls_zero {l : List UInt8} {p q t v : Int} (h : lsE l p q t v ≠ 0) : lsFrom l p q t v = 0 ∧ lsAt l p q t v = 0 ∧ lsTo l p q t v = 0 ∧ lsLen l p q t v = 0 := by
  unfold lsFrom lsAt lsTo lsLen
  rw [if_neg h, if_neg h, if_neg h, if_neg h]
  exact ⟨rfl, rfl, rfl, rfl⟩
/-- The vector with its numbers under names. -/
theorem lsw_open {w w' : World} {A : Option Addr} {n c : Nat} {l : List UInt8} {p q t v : Int} {e : Ending} (h : LsW w A n c l p q t v e w') :
    ∃ S : Value, ∃ a0 a1 a2 a3 : Int, e = .returned (.tuple #[.agg #[S, .int .i64 a0, .int .i64 a1, .int .i64 a2, .int .i64 a3, .int .i64 (lsFrom l p q t v : Nat), .int .i64 (lsAt l p q t v : Nat), .int .i64 (lsTo l p q t v : Nat), .int .i64 (lsLen l p q t v : Nat)], .int .i64 (lsE l p q t v)]) ∧ S.oneCell' = true ∧
      (lsE l p q t v = 0 → S = .slice A n c ∧ a0 = p ∧ a1 = q ∧ a2 = t ∧ a3 = v) ∧ Below w.heap.size w w' := by
  obtain ⟨rfl, hb⟩ := h
  unfold lsVec
  by_cases he : lsE l p q t v = 0
  · rw [if_pos he]
    exact ⟨_, _, _, _, _, rfl, rfl, fun _ => ⟨rfl, rfl, rfl, rfl, rfl⟩, hb⟩
  · obtain ⟨e1, e2, e3, e4⟩ := ls_zero he
    rw [if_neg he, e1, e2, e3, e4]
    exact ⟨_, _, _, _, _, rfl, rfl, fun h => absurd h he, hb⟩
theorem ret_t4 {a b c d a' b' c' d' : Int} (h1 : a = a') (h2 : b = b') (h3 : c = c') (h4 : d = d') : Ending.returned (.tuple #[.int .i64 a, .int .i64 b, .int .i64 c, .int .i64 d]) = .returned (.tuple #[.int .i64 a', .int .i64 b', .int .i64 c', .int .i64 d']) := by rw [h1, h2, h3, h4]
set_option maxRecDepth 100000 in
set_option maxHeartbeats 1000000 in
theorem lspan_spec (A : Option Addr) (n c : Nat) (p q t v : Int) (l : List UInt8) (w : World) (h : IsB w A n l) (hc : n ≤ c) (hn : n ≤ 1099511627776) :
    Calls Tryz.prog 90 #[.slice A n c, .agg #[.int .i64 p, .int .i64 q, .int .i64 t, .int .i64 v]] w fun e w' => e = .returned (.tuple #[.int .i64 (lsFrom l p q t v : Nat), .int .i64 (lsAt l p q t v : Nat), .int .i64 (lsTo l p q t v : Nat), .int .i64 (lsE l p q t v)]) ∧ Below w.heap.size w w' := by
  have HL := Lib.hid (h.alloc (.cells #[.int .i64 p, .int .i64 q, .int .i64 t, .int .i64 v] 48))
  have HB := Lib.hid ((Below.refl w.heap.size w).alloc (Nat.le_refl _) (.cells #[.int .i64 p, .int .i64 q, .int .i64 t, .int .i64 v] 48))
  obtain ⟨nf, hnf⟩ : ∃ x, lsFrom l p q t v = x := ⟨_, rfl⟩
  obtain ⟨na, hna⟩ : ∃ x, lsAt l p q t v = x := ⟨_, rfl⟩
  obtain ⟨nt, hnt⟩ : ∃ x, lsTo l p q t v = x := ⟨_, rfl⟩
  obtain ⟨nl, hnl⟩ : ∃ x, lsLen l p q t v = x := ⟨_, rfl⟩
  obtain ⟨ne, hne⟩ : ∃ x, lsE l p q t v = x := ⟨_, rfl⟩
  have HNF := Lib.hid hnf
  have HNA := Lib.hid hna
  have HNT := Lib.hid hnt
  have HNL := Lib.hid hnl
  have HNE := Lib.hid hne
  clear h hnf hna hnt hnl hne
  go_enter Tryz.func90, Tryz.ntmps90
  go_wp2_with fail
  go_at_call 124
  refine (lfind_spec A n c p q t v l _ HL.out hc hn).mono ?_
  intro e w1 hpost
  obtain ⟨S, a0, a1, a2, a3, rfl, hS, _, hb⟩ := lsw_open hpost
  rw [HNF.out, HNA.out, HNT.out, HNL.out, HNE.out]
  have hstS := fun (W : World) (p : Addr) => run_store Tryz.prog W p S .plain hS
  replace HB := Lib.hid ((pure_below HB.out hb).alloc (pure_below HB.out hb).size (.cells #[S, .int .i64 a0, .int .i64 a1, .int .i64 a2, .int .i64 a3, .int .i64 (nf : Nat), .int .i64 (na : Nat), .int .i64 (nt : Nat), .int .i64 (nl : Nat)] 146))
  clear hb hpost HL hS
  go_wp2_with fail
  go_quiet (fail)
  go_wp2
  refine bodyPost_ret (v := .tuple #[.int .i64 (nf : Nat), .int .i64 (na : Nat), .int .i64 (nt : Nat), .int .i64 ne]) (by simp [results, Tryz.results90, go_sem]) rfl ⟨?_, below_drewN HB.out _⟩
  rw [HNF.out, HNA.out, HNT.out, HNE.out]
set_option maxRecDepth 100000 in
set_option maxHeartbeats 1000000 in
theorem llen_spec (A : Option Addr) (n c : Nat) (p q t v : Int) (l : List UInt8) (w : World) (h : IsB w A n l) (hc : n ≤ c) (hn : n ≤ 1099511627776) :
    Calls Tryz.prog 91 #[.slice A n c, .agg #[.int .i64 p, .int .i64 q, .int .i64 t, .int .i64 v]] w fun e w' => e = .returned (.tuple #[.int .i64 (lsLen l p q t v : Nat), .int .i64 (lsE l p q t v)]) ∧ Below w.heap.size w w' := by
  have HL := Lib.hid (h.alloc (.cells #[.int .i64 p, .int .i64 q, .int .i64 t, .int .i64 v] 48))
  have HB := Lib.hid ((Below.refl w.heap.size w).alloc (Nat.le_refl _) (.cells #[.int .i64 p, .int .i64 q, .int .i64 t, .int .i64 v] 48))
  obtain ⟨nf, hnf⟩ : ∃ x, lsFrom l p q t v = x := ⟨_, rfl⟩
  obtain ⟨na, hna⟩ : ∃ x, lsAt l p q t v = x := ⟨_, rfl⟩
  obtain ⟨nt, hnt⟩ : ∃ x, lsTo l p q t v = x := ⟨_, rfl⟩
  obtain ⟨nl, hnl⟩ : ∃ x, lsLen l p q t v = x := ⟨_, rfl⟩
  obtain ⟨ne, hne⟩ : ∃ x, lsE l p q t v = x := ⟨_, rfl⟩
  have HNF := Lib.hid hnf
  have HNA := Lib.hid hna
  have HNT := Lib.hid hnt
  have HNL := Lib.hid hnl
  have HNE := Lib.hid hne
  clear h hnf hna hnt hnl hne
  go_enter Tryz.func91, Tryz.ntmps91
  go_wp2_with fail
  go_at_call 124
  refine (lfind_spec A n c p q t v l _ HL.out hc hn).mono ?_
  intro e w1 hpost
  obtain ⟨S, a0, a1, a2, a3, rfl, hS, _, hb⟩ := lsw_open hpost
  rw [HNF.out, HNA.out, HNT.out, HNL.out, HNE.out]
  have hstS := fun (W : World) (p : Addr) => run_store Tryz.prog W p S .plain hS
  replace HB := Lib.hid ((pure_below HB.out hb).alloc (pure_below HB.out hb).size (.cells #[S, .int .i64 a0, .int .i64 a1, .int .i64 a2, .int .i64 a3, .int .i64 (nf : Nat), .int .i64 (na : Nat), .int .i64 (nt : Nat), .int .i64 (nl : Nat)] 146))
  clear hb hpost HL hS
  go_wp2
  go_ret2
  rw [HNL.out, HNE.out]
  exact ⟨rfl, HB.out⟩
end Go.Proofs.YtejalfjeihlpeaaGreat

namespace Go.Proofs.YtejalfjeihlpeaaGreat
open Go.RowKit Go.Acc
theorem elem_no {t : Int} (h1 : t ≠ 11) (h2 : t ≠ 12) (h3 : t ≠ 14) (h4 : t ≠ 36) (h5 : t ≠ 16) (h6 : t ≠ 19) (h7 : t ≠ 22) (h8 : t ≠ 17) (h9 : t ≠ 20) (h10 : t ≠ 23) : elemT t = 0 ∧ manyT t = 0 ∧ vecT t = false := by
  cases ht : isT t with
  | false =>
    unfold elemT manyT vecT
    rw [tRow_no ht]
    exact ⟨rfl, rfl, rfl⟩
  | true =>
    have hb := isT_iff.1 ht
    have : t = 0 ∨ t = 1 ∨ t = 2 ∨ t = 3 ∨ t = 4 ∨ t = 5 ∨ t = 6 ∨ t = 7 ∨ t = 8 ∨ t = 9 ∨ t = 10 ∨ t = 13 ∨ t = 15 ∨ t = 18 ∨ t = 21 ∨ t = 24 ∨ t = 25 ∨ t = 26 ∨ t = 27 ∨ t = 28 ∨ t = 29 ∨ t = 30 ∨ t = 31 ∨ t = 32 ∨ t = 33 ∨ t = 34 ∨ t = 35 := by omega
    rcases this with rfl | rfl | rfl | rfl | rfl | rfl | rfl | rfl | rfl | rfl | rfl | rfl | rfl | rfl | rfl | rfl | rfl | rfl | rfl | rfl | rfl | rfl | rfl | rfl | rfl | rfl | rfl <;> exact ⟨rfl, rfl, rfl⟩
set_option maxRecDepth 100000 in
set_option maxHeartbeats 1000000 in
theorem relem_spec (t : Int) (w : World) : Calls Tryz.prog 115 #[.int .i64 t] w fun e w' => e = .returned (.tuple #[.int .i64 (elemT t), .int .i64 (manyT t), .bool (vecT t)]) ∧ w = w' := by
  by_cases hs : t = 11 ∨ t = 12 ∨ t = 14 ∨ t = 36 ∨ t = 16 ∨ t = 19 ∨ t = 22 ∨ t = 17 ∨ t = 20 ∨ t = 23
  · rcases hs with rfl | rfl | rfl | rfl | rfl | rfl | rfl | rfl | rfl | rfl
    all_goals
      go_enter Tryz.func115, Tryz.ntmps115
      go_wp2
      go_ret3
      exact ⟨rfl, rfl⟩
  · have hno : elemT t = 0 ∧ manyT t = 0 ∧ vecT t = false := elem_no (by omega) (by omega) (by omega) (by omega) (by omega) (by omega) (by omega) (by omega) (by omega) (by omega)
    have e1 : (t == 11) = false := beq_eq_false_iff_ne.mpr (by omega)
    have e2 : (t == 12) = false := beq_eq_false_iff_ne.mpr (by omega)
    have e3 : (t == 14) = false := beq_eq_false_iff_ne.mpr (by omega)
    have e4 : (t == 36) = false := beq_eq_false_iff_ne.mpr (by omega)
    have e5 : (t == 16) = false := beq_eq_false_iff_ne.mpr (by omega)
    have e6 : (t == 19) = false := beq_eq_false_iff_ne.mpr (by omega)
    have e7 : (t == 22) = false := beq_eq_false_iff_ne.mpr (by omega)
    have e8 : (t == 17) = false := beq_eq_false_iff_ne.mpr (by omega)
    have e9 : (t == 20) = false := beq_eq_false_iff_ne.mpr (by omega)
    have e10 : (t == 23) = false := beq_eq_false_iff_ne.mpr (by omega)
    have HNO := Lib.hid hno
    clear hs hno
    go_enter Tryz.func115, Tryz.ntmps115
    go_wp2
    go_ret3
    rw [HNO.out.1, HNO.out.2.1, HNO.out.2.2]
    exact ⟨rfl, rfl⟩
set_option maxRecDepth 100000 in
set_option maxHeartbeats 400000 in
theorem tags_spec (t : Int) (w : World) : Calls Tryz.prog 104 #[.int .i64 t] w fun e w' => e = .returned (.bool (tagT t)) ∧ w = w' := by
  by_cases h1 : t = 10
  · subst h1
    go_enter Tryz.func104, Tryz.ntmps104
    go_wp2
    go_ret
    exact ⟨rfl, rfl⟩
  · by_cases h2 : t = 9
    · subst h2
      go_enter Tryz.func104, Tryz.ntmps104
      go_wp2
      go_ret
      exact ⟨rfl, rfl⟩
    · have e1 : (t == 10) = false := beq_eq_false_iff_ne.mpr h1
      have e2 : (t == 9) = false := beq_eq_false_iff_ne.mpr h2
      have H := Lib.hid (show tagT t = false from decide_eq_false (by omega))
      clear h1 h2
      go_enter Tryz.func104, Tryz.ntmps104
      go_wp2
      go_ret
      exact ⟨ret_bool H.out.symm, rfl⟩
theorem many_vec {t : Int} (h : 0 < manyT t) : vecT t = true := by
  cases ht : isT t with
  | false =>
    unfold manyT at h
    rw [tRow_no ht] at h
    exact absurd h (by decide)
  | true =>
    revert h
    refine t37_all (p := fun t => 0 < manyT t → vecT t = true) ?_ ht
    decide
set_option maxRecDepth 100000 in
set_option maxHeartbeats 400000 in
theorem ahead_spec (t : Int) (w : World) : Calls Tryz.prog 103 #[.int .i64 t] w fun e w' => e = .returned (.int .i64 (aheadT t : Nat)) ∧ w = w' := by
  by_cases h9 : t = 9
  · subst h9
    go_enter Tryz.func103, Tryz.ntmps103
    go_wp2
    go_ret
    exact ⟨rfl, rfl⟩
  · have e9 : (t == 9) = false := beq_eq_false_iff_ne.mpr h9
    by_cases hm : 0 < manyT t
    · have hv : vecT t = true := many_vec hm
      have H := Lib.hid (show aheadT t = 0 by unfold aheadT; rw [if_neg h9, if_pos hm])
      have HV := Lib.hid hv
      clear h9 hv
      go_enter Tryz.func103, Tryz.ntmps103
      go_wp2_with fail
      go_at_call 115
      refine (relem_spec t _).mono ?_
      rw [HV.out]
      rintro e w' ⟨rfl, rfl⟩
      go_wp2
      go_ret
      rw [H.out]
      exact ⟨rfl, rfl⟩
    · have H := Lib.hid (show aheadT t = 1 by unfold aheadT; rw [if_neg h9, if_neg hm])
      obtain ⟨b, hb⟩ : ∃ b, vecT t = b := ⟨_, rfl⟩
      have HV := Lib.hid hb
      clear h9 hb
      go_enter Tryz.func103, Tryz.ntmps103
      go_wp2_with fail
      go_at_call 115
      refine (relem_spec t _).mono ?_
      rw [HV.out]
      rintro e w' ⟨rfl, rfl⟩
      cases b
      all_goals
        go_wp2
        go_ret
        rw [H.out]
        exact ⟨rfl, rfl⟩
end Go.Proofs.YtejalfjeihlpeaaGreat
