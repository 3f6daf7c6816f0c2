/-
  Package list's reference: Elem, Tags, Ahead.
-/
import Derived.Test.YtaigofpipoimkaaLiC
namespace Go.Proofs.Ytaigofpipoimkaa
open Go.RowKit Go.Acc
theorem elem_no {t : Int} (h1 : t ≠ 11) (h2 : t ≠ 12) (h3 : t ≠ 14) (h4 : t ≠ 36) (h5 : t ≠ 16) (h6 : t ≠ 19) (h7 : t ≠ 22) (h8 : t ≠ 17) (h9 : t ≠ 20) (h10 : t ≠ 23) : elemT t = 0 ∧ manyT t = 0 ∧ vecT t = false := by
  cases ht : isT t with
  | false =>
    unfold elemT manyT vecT
    rw [tRow_no ht]
    exact ⟨rfl, rfl, rfl⟩
  | true =>
    have hb := isT_iff.1 ht
    have : t = 0 ∨ t = 1 ∨ t = 2 ∨ t = 3 ∨ t = 4 ∨ t = 5 ∨ t = 6 ∨ t = 7 ∨ t = 8 ∨ t = 9 ∨ t = 10 ∨ t = 13 ∨ t = 15 ∨ t = 18 ∨ t = 21 ∨ t = 24 ∨ t = 25 ∨ t = 26 ∨ t = 27 ∨ t = 28 ∨ t = 29 ∨ t = 30 ∨ t = 31 ∨ t = 32 ∨ t = 33 ∨ t = 34 ∨ t = 35 := by omega
    rcases this with rfl | rfl | rfl | rfl | rfl | rfl | rfl | rfl | rfl | rfl | rfl | rfl | rfl | rfl | rfl | rfl | rfl | rfl | rfl | rfl | rfl | rfl | rfl | rfl | rfl | rfl | rfl <;> exact ⟨rfl, rfl, rfl⟩
set_option maxRecDepth 100000 in
set_option maxHeartbeats 1000000 in
theorem relem_spec (t : Int) (w : World) : Calls Try.prog 89 #[.int .i64 t] w fun e w' => e = .returned (.tuple #[.int .i64 (elemT t), .int .i64 (manyT t), .bool (vecT t)]) ∧ w = w' := by
  by_cases hs : t = 11 ∨ t = 12 ∨ t = 14 ∨ t = 36 ∨ t = 16 ∨ t = 19 ∨ t = 22 ∨ t = 17 ∨ t = 20 ∨ t = 23
  · rcases hs with rfl | rfl | rfl | rfl | rfl | rfl | rfl | rfl | rfl | rfl
    all_goals
      go_enter Try.func89, Try.ntmps89
      go_wp2
      go_ret3
      exact ⟨rfl, rfl⟩
  · have hno : elemT t = 0 ∧ manyT t = 0 ∧ vecT t = false := elem_no (by omega) (by omega) (by omega) (by omega) (by omega) (by omega) (by omega) (by omega) (by omega) (by omega)
    have e1 : (t == 11) = false := beq_eq_false_iff_ne.mpr (by omega)
    have e2 : (t == 12) = false := beq_eq_false_iff_ne.mpr (by omega)
    have e3 : (t == 14) = false := beq_eq_false_iff_ne.mpr (by omega)
    have e4 : (t == 36) = false := beq_eq_false_iff_ne.mpr (by omega)
    have e5 : (t == 16) = false := beq_eq_false_iff_ne.mpr (by omega)
    have e6 : (t == 19) = false := beq_eq_false_iff_ne.mpr (by omega)
    have e7 : (t == 22) = false := beq_eq_false_iff_ne.mpr (by omega)
    have e8 : (t == 17) = false := beq_eq_false_iff_ne.mpr (by omega)
    have e9 : (t == 20) = false := beq_eq_false_iff_ne.mpr (by omega)
    have e10 : (t == 23) = false := beq_eq_false_iff_ne.mpr (by omega)
    have HNO := Lib.hid hno
    clear hs hno
    go_enter Try.func89, Try.ntmps89
    go_wp2
    go_ret3
    rw [HNO.out.1, HNO.out.2.1, HNO.out.2.2]
    exact ⟨rfl, rfl⟩
set_option maxRecDepth 100000 in
set_option maxHeartbeats 400000 in
theorem tags_spec (t : Int) (w : World) : Calls Try.prog 88 #[.int .i64 t] w fun e w' => e = .returned (.bool (tagT t)) ∧ w = w' := by
  by_cases h1 : t = 10
  · subst h1
    go_enter Try.func88, Try.ntmps88
    go_wp2
    go_ret
    exact ⟨rfl, rfl⟩
  · by_cases h2 : t = 9
    · subst h2
      go_enter Try.func88, Try.ntmps88
      go_wp2
      go_ret
      exact ⟨rfl, rfl⟩
    · have e1 : (t == 10) = false := beq_eq_false_iff_ne.mpr h1
      have e2 : (t == 9) = false := beq_eq_false_iff_ne.mpr h2
      have H := Lib.hid (show tagT t = false from decide_eq_false (by omega))
      clear h1 h2
      go_enter Try.func88, Try.ntmps88
      go_wp2
      go_ret
      exact ⟨ret_bool H.out.symm, rfl⟩
theorem many_vec {t : Int} (h : 0 < manyT t) : vecT t = true := by
  cases ht : isT t with
  | false =>
    unfold manyT at h
    rw [tRow_no ht] at h
    exact absurd h (by decide)
  | true =>
    revert h
    refine t37_all (p := fun t => 0 < manyT t → vecT t = true) ?_ ht
    decide
set_option maxRecDepth 100000 in
set_option maxHeartbeats 400000 in
theorem ahead_spec (t : Int) (w : World) : Calls Try.prog 114 #[.int .i64 t] w fun e w' => e = .returned (.int .i64 (aheadT t : Nat)) ∧ w = w' := by
  by_cases h9 : t = 9
  · subst h9
    go_enter Try.func114, Try.ntmps114
    go_wp2
    go_ret
    exact ⟨rfl, rfl⟩
  · have e9 : (t == 9) = false := beq_eq_false_iff_ne.mpr h9
    by_cases hm : 0 < manyT t
    · have hv : vecT t = true := many_vec hm
      have H := Lib.hid (show aheadT t = 0 by unfold aheadT; rw [if_neg h9, if_pos hm])
      have HV := Lib.hid hv
      clear h9 hv
      go_enter Try.func114, Try.ntmps114
      go_wp2_with fail
      go_at_call 89
      refine (relem_spec t _).mono ?_
      rw [HV.out]
      rintro e w' ⟨rfl, rfl⟩
      go_wp2
      go_ret
      rw [H.out]
      exact ⟨rfl, rfl⟩
    · have H := Lib.hid (show aheadT t = 1 by unfold aheadT; rw [if_neg h9, if_neg hm])
      obtain ⟨b, hb⟩ : ∃ b, vecT t = b := ⟨_, rfl⟩
      have HV := Lib.hid hb
      clear h9 hb
      go_enter Try.func114, Try.ntmps114
      go_wp2_with fail
      go_at_call 89
      refine (relem_spec t _).mono ?_
      rw [HV.out]
      rintro e w' ⟨rfl, rfl⟩
      cases b
      all_goals
        go_wp2
        go_ret
        rw [H.out]
        exact ⟨rfl, rfl⟩
end Go.Proofs.Ytaigofpipoimkaa
