/-
  Package le: the property LeBack, its row.
-/
import Derived.Test.YtbgakgljgdiimaaLeS
namespace Go.Proofs.Ytbgakgljgdiimaa
open Go.RowKit Go.Acc
open Go.ChangeShapes Go.WideShapes Go.ChangeAt
theorem two_arg {H : Type} {enc : TypeId × Value → H} {W : World} {base : Nat} {v : Value} {d : DataW H} {p : List MemPlace} (k : Value.okWide Try.prog W .any base 41 v) (h : DataW.Trod enc Try.prog W 0 (fun _ => true) true 41 v d p) :
    ∃ A n c l B m e k, v = .agg #[.slice A n c, .slice B m e] ∧ IsB W A n l ∧ n ≤ c ∧ IsB W B m k ∧ m ≤ e := by
  simp only [Value.okWide, Try.underlying41] at k
  obtain ⟨cs, rfl, hcs, _⟩ := k
  have hC : Program.cellsOf Try.prog 41 = 2 := by kernel_rfl
  have hD : Program.cellsOf Try.prog 22 = 1 := by kernel_rfl
  obtain ⟨c0, c1, rfl⟩ : ∃ a b : Value, cs = #[a, b] := by
    have := hcs.trans hC
    match cs, this with
    | ⟨[a, b]⟩, _ => exact ⟨a, b, rfl⟩
  obtain ⟨f, hf⟩ := h
  obtain ⟨xs, m, rfl, _, _, hl, hat⟩ := DataW.trod_array Try.underlying41 hf
  have h0 := hat 0 (by omega)
  have h1 := hat 1 (by omega)
  rw [hD, List.getElem?_eq_getElem (by omega)] at h0 h1
  obtain ⟨A, n, c, l, rfl, i1, i2, _⟩ := bytes_read (v := c0) (by simpa [Value.cells] using h0)
  obtain ⟨B, m', e, k, rfl, j1, j2, _⟩ := bytes_read (v := c1) (by simpa [Value.cells] using h1)
  exact ⟨A, n, c, l, B, m', e, k, rfl, i1, i2, j1, j2⟩
theorem leBack_run {H : Type} {enc : TypeId × Value → H} {v0 v1 v2 : Value} {d0 d1 d2 : DataW H} {p0 p1 p2 : List MemPlace} (W : World) (base : Nat) (k0 : Value.okWide Try.prog W .any base 41 v0) (k1 : Value.okWide Try.prog W .any base 3 v1) (k2 : Value.okWide Try.prog W .any base 24 v2)
    (h0 : DataW.Trod enc Try.prog W 0 (fun _ => true) true 41 v0 d0 p0) (h1 : DataW.Trod enc Try.prog W 0 (fun _ => true) true 3 v1 d1 p1) (h2 : DataW.Trod enc Try.prog W 0 (fun _ => true) true 24 v2 d2 p2) :
    Calls Try.prog 5 #[v0, v1, v2] W fun e w' => e = .returned (.bool true) ∧ Below W.heap.size W w' := by
  obtain ⟨A, n, c, l, B, m, e, k, rfl, i1, i2, j1, j2⟩ := two_arg k0 h0
  obtain ⟨m1, rfl, _⟩ := int_arg k1 h1
  obtain ⟨u, rfl, hu⟩ := u64_arg k2 h2
  exact leback_spec A B n c m e m1 u l k W i1 j1 i2 j2 hu

set_option maxRecDepth 100000 in
theorem leBack_lifted (os : Os) (started : os.Started) (H : Type) (enc : TypeId × Value → H) :
    ReturnsInHanded {} Try.checked os 5 .any (Rows.leBackSpec.pre6 enc Try.prog Try.f5 Rows.leBackRow.domain false) (Rows.leBackSpec.post enc Try.prog Try.f5 false true false false) := by
  refine returnsInHanded_of_change (C := Try.checked) acc_own started (by kernel_rfl) Try.func5
    (ChangeSpec.witness6 (enc := enc) (C := Try.checked) false ⟨#[], #[.agg #[.slice none 0 0, .slice none 0 0], .int .i64 0, .int .u64 0], []⟩ 8 (by kernel_rfl) (by kernel_rfl) (by kernel_rfl) (by kernel_rfl)) ?_
  intro W base args ds gs before hval0 hW hcnd _
  have hval : ∀ (j : Nat) t v, Try.f5.params[j]? = some t → args[j]? = some v → Value.okWide Try.prog W .any base t v := hval0
  have hW' := hW
  obtain ⟨p, q, hA0, hV, rfl, hfz, hnd⟩ := hW
  have hA : DataW.TrodAll enc Try.prog W 0 (fun _ => true) true Try.f5.params.toList args.toList ds p := hA0
  rw [Try.params5] at hA
  rw [Try.params5] at hval
  obtain ⟨v0, vs0, d0, ds0, p0, q0, hargs, rfl, rfl, h0, r0⟩ := trodAll_cons hA
  obtain ⟨v1, vs1, d1, ds1, p1, q1, rfl, rfl, rfl, h1, r1⟩ := trodAll_cons r0
  obtain ⟨v2, vs2, d2, ds2, p2, q2, rfl, rfl, rfl, h2, r2⟩ := trodAll_cons r1
  obtain ⟨rfl, rfl, rfl⟩ := trodAll_nil r2
  obtain rfl : args = #[v0, v1, v2] := by cases args; simp_all
  obtain ⟨rfl, rfl⟩ := trodVars_none hV
  have k0 := hval 0 41 v0 rfl rfl
  have k1 := hval 1 3 v1 rfl rfl
  have k2 := hval 2 24 v2 rfl rfl
  clear hA0 hval0
  refine (leBack_run (enc := enc) W base k0 k1 k2 h0 h1 h2).mono fun e W' ⟨he, bel⟩ => ?_
  subst he
  exact ⟨_, rfl, _, _, _, [], _, [], hW', trodAll_mk1 (shut_bool Try.underlying4 _), (trodAll_cons_mk (below_arg acc_laidOut (by kernel_rfl) (of_decide_eq_true (by kernel_rfl)) h0 bel) (trodAll_cons_mk (below_arg acc_laidOut (by kernel_rfl) (of_decide_eq_true (by kernel_rfl)) h1 bel) (trodAll_cons_mk (below_arg acc_laidOut (by kernel_rfl) (of_decide_eq_true (by kernel_rfl)) h2 bel) trodAll_mk0))), rfl, bel.frame _, fun h => by cases h⟩

theorem leBack_holds : Rows.LeBackSaid :=
  OpenClaim.holds_of_wide 5 Try.f5 rfl rfl rfl rfl rfl rfl rfl ⟨rfl, rfl, rfl, rfl, rfl⟩ rfl rfl rfl rfl rfl (by kernel_rfl) Try.func5 (by kernel_rfl)
    (of_decide_eq_true (by kernel_rfl)) (by unfold Func.isWrapper; rw [if_neg (of_decide_eq_false (by kernel_rfl))]; exact ⟨rfl, rfl⟩)
    (fun os started H enc _ => leBack_lifted os started H enc)
#print axioms leBack_holds
end Go.Proofs.Ytbgakgljgdiimaa
