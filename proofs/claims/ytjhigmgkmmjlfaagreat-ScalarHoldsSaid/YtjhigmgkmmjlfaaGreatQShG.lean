/-
  ScalarHolds: for every number, kind and amount of bytes ahead, a number in a built document is read unchanged. No conditions.
-/
import Derived.Test.YtjhigmgkmmjlfaaGreatQShF
namespace Go.Proofs.YtjhigmgkmmjlfaaGreat
open Go.RowKit Go.Acc Go.ChangeShapes Go.WideShapes Go.ChangeAt
theorem sholds_spec (u : Nat) (k a : Int) (w : World) (hu : u < 18446744073709551616) : Calls Tryz.prog 5 #[.int .u64 (u : Int), .int .i64 k, .int .i64 a] w fun e w' => e = .returned (.bool true) ∧ Below w.heap.size w w' := by
  have hk : k % 6 = 0 ∨ k % 6 = 1 ∨ k % 6 = 2 ∨ k % 6 = 3 ∨ k % 6 = 4 ∨ k % 6 = 5 := by omega
  rcases hk with hk | hk | hk | hk | hk | hk
  · exact holds_0 u k a w hu hk
  · rcases Nat.mod_two_eq_zero_or_one u with hr | hr
    · exact holds_10 u k a w hu hr hk
    · exact holds_11 u k a w hu hr hk
  · rcases Nat.lt_or_ge u 9223372036854775808 with h | h
    · exact holds_2p u k a w h hk
    · exact holds_2n u k a w hu h hk
  · rcases Nat.lt_or_ge u 9223372036854775808 with h | h
    · exact holds_3p u k a w h hk
    · exact holds_3n u k a w hu h hk
  · rcases Nat.lt_or_ge u 9223372036854775808 with h | h
    · exact holds_4p u k a w h hk
    · exact holds_4n u k a w hu h hk
  · rcases Nat.lt_or_ge u 9223372036854775808 with h | h
    · exact holds_5p u k a w h hk
    · exact holds_5n u k a w hu h hk
set_option maxRecDepth 100000 in
theorem scalarHolds_run {H : Type} {enc : TypeId × Value → H} {v0 v1 v2 : Value} {d0 d1 d2 : DataW H} {p0 p1 p2 : List MemPlace} (W : World) (base : Nat) (k0 : Value.okWide Tryz.prog W .any base 22 v0) (k1 : Value.okWide Tryz.prog W .any base 3 v1) (k2 : Value.okWide Tryz.prog W .any base 3 v2)
    (h0 : DataW.Trod enc Tryz.prog W 0 (fun _ => true) true 22 v0 d0 p0) (h1 : DataW.Trod enc Tryz.prog W 0 (fun _ => true) true 3 v1 d1 p1) (h2 : DataW.Trod enc Tryz.prog W 0 (fun _ => true) true 3 v2 d2 p2) :
    Calls Tryz.prog 5 #[v0, v1, v2] W fun e w' => e = .returned (.bool true) ∧ Below W.heap.size W w' := by
  obtain ⟨u, rfl, hu⟩ := u64_arg k0 h0
  obtain ⟨k, rfl, _⟩ := int_arg k1 h1
  obtain ⟨a, rfl, _⟩ := int_arg k2 h2
  exact sholds_spec u k a W (by omega)

set_option maxRecDepth 100000 in
theorem scalarHolds_lifted (os : Os) (started : os.Started) (H : Type) (enc : TypeId × Value → H) :
    ReturnsInHanded {} Tryz.checked os 5 .any (Rows.scalarHoldsSpec.pre6 enc Tryz.prog Tryz.f5 Rows.scalarHoldsRow.domain false) (Rows.scalarHoldsSpec.post enc Tryz.prog Tryz.f5 false true false false) := by
  refine returnsInHanded_of_change (C := Tryz.checked) acc_own started (by kernel_rfl) Tryz.func5
    (ChangeSpec.witness6 (enc := enc) (C := Tryz.checked) false ⟨#[], #[.int .u64 0, .int .i64 0, .int .i64 0], []⟩ 8 (by kernel_rfl) (by kernel_rfl) (by kernel_rfl) (by kernel_rfl)) ?_
  intro W base args ds gs before hval0 hW hcnd _
  have hval : ∀ (j : Nat) t v, Tryz.f5.params[j]? = some t → args[j]? = some v → Value.okWide Tryz.prog W .any base t v := hval0
  have hW' := hW
  obtain ⟨p, q, hA0, hV, rfl, hfz, hnd⟩ := hW
  have hA : DataW.TrodAll enc Tryz.prog W 0 (fun _ => true) true Tryz.f5.params.toList args.toList ds p := hA0
  rw [Tryz.params5] at hA
  rw [Tryz.params5] at hval
  obtain ⟨v0, vs0, d0, ds0, p0, q0, hargs, rfl, rfl, h0, r0⟩ := trodAll_cons hA
  obtain ⟨v1, vs1, d1, ds1, p1, q1, rfl, rfl, rfl, h1, r1⟩ := trodAll_cons r0
  obtain ⟨v2, vs2, d2, ds2, p2, q2, rfl, rfl, rfl, h2, r2⟩ := trodAll_cons r1
  obtain ⟨rfl, rfl, rfl⟩ := trodAll_nil r2
  obtain rfl : args = #[v0, v1, v2] := by cases args; simp_all
  obtain ⟨rfl, rfl⟩ := trodVars_none hV
  have k0 := hval 0 22 v0 rfl rfl
  have k1 := hval 1 3 v1 rfl rfl
  have k2 := hval 2 3 v2 rfl rfl
  clear hA0 hval0
  refine (scalarHolds_run (enc := enc) W base k0 k1 k2 h0 h1 h2).mono fun e W' ⟨he, bel⟩ => ?_
  subst he
  exact ⟨_, rfl, _, _, _, [], _, [], hW', trodAll_mk1 (shut_bool Tryz.underlying4 _), (trodAll_cons_mk (below_arg acc_laidOut (by kernel_rfl) (of_decide_eq_true (by kernel_rfl)) h0 bel) (trodAll_cons_mk (below_arg acc_laidOut (by kernel_rfl) (of_decide_eq_true (by kernel_rfl)) h1 bel) (trodAll_cons_mk (below_arg acc_laidOut (by kernel_rfl) (of_decide_eq_true (by kernel_rfl)) h2 bel) trodAll_mk0))), rfl, bel.frame _, fun h => by cases h⟩

theorem scalarHolds_holds : Rows.ScalarHoldsSaid :=
  OpenClaim.holds_of_wide 5 Tryz.f5 rfl rfl rfl rfl rfl rfl rfl ⟨rfl, rfl, rfl, rfl, rfl⟩ rfl rfl rfl rfl rfl (by kernel_rfl) Tryz.func5 (by kernel_rfl)
    (of_decide_eq_true (by kernel_rfl)) (by unfold Func.isWrapper; rw [if_neg (of_decide_eq_false (by kernel_rfl))]; exact ⟨rfl, rfl⟩)
    (fun os started H enc _ => scalarHolds_lifted os started H enc)
#print axioms scalarHolds_holds
end Go.Proofs.YtjhigmgkmmjlfaaGreat
