/-
  The property MinimalLists holds: for any unsigned numbers (at most 100 of them are taken), any of the four widths, typed or not, the document that is their vector is too wide exactly if the width is greater than 1 and all numbers fit half of it.
-/
import Derived.Test.YtejalfjeihlpeaaGreatQMoG
namespace Go.Proofs.YtejalfjeihlpeaaGreat
open Go.RowKit Go.Acc
open Go.ChangeShapes Go.WideShapes Go.ChangeAt
set_option maxRecDepth 100000 in
theorem bool_arg {H : Type} {enc : TypeId × Value → H} {W : World} {base : Nat} {v : Value} {d : DataW H} {p : List MemPlace} (k : Value.okWide Tryz.prog W .any base 4 v) (h : DataW.Trod enc Tryz.prog W 0 (fun _ => true) true 4 v d p) :
    ∃ b, v = .bool b := by
  obtain ⟨_, _⟩ := h
  obtain ⟨b, rfl⟩ := okWide_bool Tryz.underlying4 k
  exact ⟨b, rfl⟩
theorem nums_read {H : Type} {enc : TypeId × Value → H} {W : World} {base : Nat} {spare : Nat → Bool} {held : Bool} {fuel : Nat} {v : Value} {x : DataW H × List MemPlace} (h : DataW.trod enc Tryz.prog W base spare held fuel 34 [v] = some x) :
    ∃ A n c l, v = .slice A n c ∧ IsU W A n l ∧ n ≤ c ∧ ∀ u ∈ l, ((u : Nat) : Int) < 18446744073709551616 := by
  rcases open_ints Tryz.underlying34 Tryz.underlying38 (by kernel_rfl) h with ⟨e, _⟩ | ⟨a, n, c, zs, e, _, hl, hm, hz, _, hcell, hwf⟩
  · obtain rfl : v = .slice none 0 0 := by simpa using e
    exact ⟨none, 0, 0, [], rfl, Is.nil _ _, by omega, fun u hu => by cases hu⟩
  · obtain rfl : v = .slice (some a) n c := by simpa using e
    simp only [maxLen] at hm
    have hzn : n ≤ zs.length := by rw [hz]; split <;> omega
    obtain ⟨l, hl', hq⟩ := is_of_elems (f := uc) (sz := 1) uc_len (by omega) (w := W) (a := a) (n := n) (fun u => ((u : Nat) : Int) < 18446744073709551616) (fun i hi => by
      have hc := hcell i (by omega)
      have hb := u64_bd (hwf (zs.getD i 0) (by rw [List.getD_eq_getElem?_getD, List.getElem?_eq_getElem (show i < zs.length by omega)]; exact List.getElem_mem _))
      refine ⟨(zs.getD i 0).toNat, by omega, fun j hj => ?_⟩
      obtain rfl : j = 0 := by omega
      have e : (((zs.getD i 0).toNat : Nat) : Int) = zs.getD i 0 := by omega
      rw [Nat.mul_one, Nat.add_zero, hc]
      show _ = some (Value.int .u64 _)
      rw [e])
    exact ⟨some a, n, c, l, rfl, hl', hl, hq⟩
set_option maxRecDepth 100000 in
theorem nums_arg {H : Type} {enc : TypeId × Value → H} {W : World} {base : Nat} {v : Value} {d : DataW H} {p : List MemPlace} (k : Value.okWide Tryz.prog W .any base 34 v) (h : DataW.Trod enc Tryz.prog W 0 (fun _ => true) true 34 v d p) :
    ∃ A n c l, v = .slice A n c ∧ IsU W A n l ∧ n ≤ c ∧ ∀ u ∈ l, ((u : Nat) : Int) < 18446744073709551616 := by
  obtain ⟨_, _, _, rfl⟩ := okWide_slice Tryz.underlying34 k
  obtain ⟨f, hf⟩ := h
  exact nums_read hf
set_option maxRecDepth 100000 in
theorem minimalLists_run {H : Type} {enc : TypeId × Value → H} {v0 v1 v2 : Value} {d0 d1 d2 : DataW H} {p0 p1 p2 : List MemPlace} (W : World) (base : Nat) (k0 : Value.okWide Tryz.prog W .any base 34 v0) (k1 : Value.okWide Tryz.prog W .any base 3 v1) (k2 : Value.okWide Tryz.prog W .any base 4 v2)
    (h0 : DataW.Trod enc Tryz.prog W 0 (fun _ => true) true 34 v0 d0 p0) (h1 : DataW.Trod enc Tryz.prog W 0 (fun _ => true) true 3 v1 d1 p1) (h2 : DataW.Trod enc Tryz.prog W 0 (fun _ => true) true 4 v2 d2 p2) :
    Calls Tryz.prog 5 #[v0, v1, v2] W fun e w' => e = .returned (.bool true) ∧ Below W.heap.size W w' := by
  obtain ⟨A, n, c, l, rfl, hI, hc, hu⟩ := nums_arg k0 h0
  obtain ⟨i, rfl, _⟩ := int_arg k1 h1
  obtain ⟨b, rfl⟩ := bool_arg k2 h2
  exact minlists_spec A n c i b l W hI hc hu

set_option maxRecDepth 100000 in
theorem minimalLists_lifted (os : Os) (started : os.Started) (H : Type) (enc : TypeId × Value → H) :
    ReturnsInHanded {} Tryz.checked os 5 .any (Rows.minimalListsSpec.pre6 enc Tryz.prog Tryz.f5 Rows.minimalListsRow.domain false) (Rows.minimalListsSpec.post enc Tryz.prog Tryz.f5 false true false false) := by
  refine returnsInHanded_of_change (C := Tryz.checked) acc_own started (by kernel_rfl) Tryz.func5
    (ChangeSpec.witness6 (enc := enc) (C := Tryz.checked) false ⟨#[], #[.slice none 0 0, .int .i64 0, .bool false], []⟩ 8 (by kernel_rfl) (by kernel_rfl) (by kernel_rfl) (by kernel_rfl)) ?_
  intro W base args ds gs before hval0 hW hcnd _
  have hval : ∀ (j : Nat) t v, Tryz.f5.params[j]? = some t → args[j]? = some v → Value.okWide Tryz.prog W .any base t v := hval0
  have hW' := hW
  obtain ⟨p, q, hA0, hV, rfl, hfz, hnd⟩ := hW
  have hA : DataW.TrodAll enc Tryz.prog W 0 (fun _ => true) true Tryz.f5.params.toList args.toList ds p := hA0
  rw [Tryz.params5] at hA
  rw [Tryz.params5] at hval
  obtain ⟨v0, vs0, d0, ds0, p0, q0, hargs, rfl, rfl, h0, r0⟩ := trodAll_cons hA
  obtain ⟨v1, vs1, d1, ds1, p1, q1, rfl, rfl, rfl, h1, r1⟩ := trodAll_cons r0
  obtain ⟨v2, vs2, d2, ds2, p2, q2, rfl, rfl, rfl, h2, r2⟩ := trodAll_cons r1
  obtain ⟨rfl, rfl, rfl⟩ := trodAll_nil r2
  obtain rfl : args = #[v0, v1, v2] := by cases args; simp_all
  obtain ⟨rfl, rfl⟩ := trodVars_none hV
  have k0 := hval 0 34 v0 rfl rfl
  have k1 := hval 1 3 v1 rfl rfl
  have k2 := hval 2 4 v2 rfl rfl
  clear hA0 hval0
  refine (minimalLists_run (enc := enc) W base k0 k1 k2 h0 h1 h2).mono fun e W' ⟨he, bel⟩ => ?_
  subst he
  exact ⟨_, rfl, _, _, _, [], _, [], hW', trodAll_mk1 (shut_bool Tryz.underlying4 _), (trodAll_cons_mk (below_arg acc_laidOut (by kernel_rfl) (of_decide_eq_true (by kernel_rfl)) h0 bel) (trodAll_cons_mk (below_arg acc_laidOut (by kernel_rfl) (of_decide_eq_true (by kernel_rfl)) h1 bel) (trodAll_cons_mk (below_arg acc_laidOut (by kernel_rfl) (of_decide_eq_true (by kernel_rfl)) h2 bel) trodAll_mk0))), rfl, bel.frame _, fun h => by cases h⟩

theorem minimalLists_holds : Rows.MinimalListsSaid :=
  OpenClaim.holds_of_wide 5 Tryz.f5 rfl rfl rfl rfl rfl rfl rfl ⟨rfl, rfl, rfl, rfl, rfl⟩ rfl rfl rfl rfl rfl (by kernel_rfl) Tryz.func5 (by kernel_rfl)
    (of_decide_eq_true (by kernel_rfl)) (by unfold Func.isWrapper; rw [if_neg (of_decide_eq_false (by kernel_rfl))]; exact ⟨rfl, rfl⟩)
    (fun os started H enc _ => minimalLists_lifted os started H enc)
#print axioms minimalLists_holds
end Go.Proofs.YtejalfjeihlpeaaGreat
