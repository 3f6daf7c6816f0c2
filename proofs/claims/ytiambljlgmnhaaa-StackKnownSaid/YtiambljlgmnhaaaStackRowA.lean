/-
  StackPlays returns true, whatever the sequence of calls: no condition.
-/
import Derived.Test.YtiambljlgmnhaaaStackD
import Derived.Test.YtiambljlgmnhaaaOpen
namespace Go.Proofs.Ytiambljlgmnhaaa
open Go.ChangeShapes Go.WideShapes Go.ChangeAt Go.RowKit Go.Acc

theorem acc_own : ownKnob Try.prog.godebug = none := by kernel_rfl
theorem acc_laidOut : laidOutB Try.prog = true := by kernel_rfl

section
variable {H : Type} {enc : TypeId × Value → H} {W : World} {base : Nat} {spare : Nat → Bool} {held : Bool}
/-- A slice of values, read. -/
theorem values_read {fuel : Nat} {v : Value} {x : DataW H × List MemPlace} (h : DataW.trod enc Try.prog W base spare held fuel 27 [v] = some x) :
    ∃ A n c l, v = .slice A n c ∧ IsV W A n l ∧ n ≤ c ∧ n ≤ 9223372036854775807 := by
  rcases open_fields Try.underlying27 Try.underlying49 (by kernel_rfl) (by kernel_rfl) h with e | ⟨a, n, c, e, hl, hm, hf⟩
  · obtain rfl : v = .slice none 0 0 := by simpa using e
    exact ⟨none, 0, 0, [], rfl, Is.nil _ _, by omega, by omega⟩
  · obtain rfl : v = .slice (some a) n c := by simpa using e
    simp only [maxLen] at hm
    obtain ⟨l, hl', _⟩ := is_of_elems (f := vc) (sz := 3) vc_len (by omega) (w := W) (a := a) (n := n) (fun _ => True) (fun i hi => by
      obtain ⟨m, hf⟩ := hf i hi
      obtain ⟨u0, y0, c0, t0⟩ := hf 0 _ rfl
      obtain ⟨u1, y1, c1, t1⟩ := hf 1 _ rfl
      obtain ⟨u2, y2, c2, t2⟩ := hf 2 _ rfl
      obtain ⟨n0, e0, _⟩ := DataW.trod_int Try.underlying3 t0
      obtain ⟨n1, e1, _⟩ := DataW.trod_int Try.underlying3 t1
      obtain ⟨n2, e2, _⟩ := DataW.trod_int Try.underlying47 t2
      obtain rfl : u0 = .int .i64 n0 := by simpa using e0
      obtain rfl : u1 = .int .i64 n1 := by simpa using e1
      obtain rfl : u2 = .int .u64 n2 := by simpa using e2
      refine ⟨(n0, n1, n2), trivial, fun j hj => ?_⟩
      match j, hj with
      | 0, _ => exact c0
      | 1, _ => exact c1
      | 2, _ => exact c2)
    exact ⟨some a, n, c, l, rfl, hl', hl, by omega⟩

/-- A slice of calls, read. -/
theorem calls_read {fuel : Nat} {v : Value} {x : DataW H × List MemPlace} (h : DataW.trod enc Try.prog W base spare held fuel 22 [v] = some x) :
    ∃ A n c, v = .slice A n c ∧ (∀ k, k < n → DoAt W A k) ∧ n ≤ 9223372036854775807 := by
  rcases open_fields Try.underlying22 Try.underlying29 (by kernel_rfl) (by kernel_rfl) h with e | ⟨a, n, c, e, hl, hm, hf⟩
  · obtain rfl : v = .slice none 0 0 := by simpa using e
    exact ⟨none, 0, 0, rfl, fun k hk => by omega, by omega⟩
  · obtain rfl : v = .slice (some a) n c := by simpa using e
    simp only [maxLen] at hm
    refine ⟨some a, n, c, rfl, fun k hk => ?_, by omega⟩
    obtain ⟨m, hf0⟩ := hf 0 (by omega)
    obtain ⟨_, _, z0, _⟩ := hf0 0 _ rfl
    have ha : a = ⟨a.block, a.off, none⟩ := add_spot (w := W) (a := a) (by simpa [Addr.add] using z0)
    obtain ⟨m, hf⟩ := hf k hk
    obtain ⟨u0, y0, c0, t0⟩ := hf 0 _ rfl
    obtain ⟨u1, y1, c1, t1⟩ := hf 1 _ rfl
    obtain ⟨u2, y2, c2, t2⟩ := hf 2 _ rfl
    obtain ⟨n0, e0, _⟩ := DataW.trod_int Try.underlying3 t0
    obtain ⟨n1, e1, _, w1⟩ := DataW.trod_int Try.underlying3 t1
    obtain ⟨LA, ln, lc, L, rfl, hL, hL1, hL2⟩ := values_read t2
    obtain rfl : u0 = .int .i64 n0 := by simpa using e0
    obtain rfl : u1 = .int .i64 n1 := by simpa using e1
    rw [ha, add_none] at c0 c1 c2
    exact ⟨a.block, a.off, n0, n1, LA, ln, lc, L, by rw [← ha], c0, c1, c2, hL, hL1, hL2, (i64_bd w1).1, (i64_bd w1).2⟩

theorem stackPlays_run {v : Value} {d : DataW H} {p : List MemPlace} (W : World) (base : Nat) (k0 : Value.okWide Try.prog W .any base 22 v) (h0 : DataW.Trod enc Try.prog W 0 (fun _ => true) true 22 v d p) :
    Calls Try.prog 3 #[v] W fun e w' => e = .returned (.bool true) ∧ Below W.heap.size W w' := by
  obtain ⟨a0, len, cap, rfl⟩ := okWide_slice Try.underlying22 k0
  obtain ⟨fuel, hf⟩ := h0
  obtain ⟨A, n, c, e, h1, h2⟩ := calls_read hf
  rw [e]
  exact plays_spec A n c W h1 h2
end

set_option maxRecDepth 100000 in
theorem stackPlays_lifted (os : Os) (started : os.Started) (H : Type) (enc : TypeId × Value → H) :
    ReturnsInHanded {} Try.checked os 3 .any (Rows.stackPlaysSpec.pre6 enc Try.prog Try.f3 Rows.stackPlaysRow.domain false) (Rows.stackPlaysSpec.post enc Try.prog Try.f3 false true false false) := by
  refine returnsInHanded_of_change (C := Try.checked) acc_own started (by kernel_rfl) Try.func3
    (ChangeSpec.witness6 (enc := enc) (C := Try.checked) false ⟨#[], #[.slice none 0 0], []⟩ 8 (by kernel_rfl) (by kernel_rfl) (by kernel_rfl) (by kernel_rfl)) ?_
  intro W base args ds gs before hval0 hW hcnd _
  have hval : ∀ (j : Nat) t v, Try.f3.params[j]? = some t → args[j]? = some v → Value.okWide Try.prog W .any base t v := hval0
  have hW' := hW
  obtain ⟨p, q, hA0, hV, rfl, hfz, hnd⟩ := hW
  have hA : DataW.TrodAll enc Try.prog W 0 (fun _ => true) true Try.f3.params.toList args.toList ds p := hA0
  rw [Try.params3] at hA
  rw [Try.params3] at hval
  obtain ⟨v0, vs0, d0, ds0, p0, q0, hargs, rfl, rfl, h0, r0⟩ := trodAll_cons hA
  obtain ⟨rfl, rfl, rfl⟩ := trodAll_nil r0
  obtain rfl : args = #[v0] := by cases args; simp_all
  obtain ⟨rfl, rfl⟩ := trodVars_none hV
  have k0 := hval 0 22 v0 rfl rfl
  clear hA0 hval0
  refine (stackPlays_run (enc := enc) W base k0 h0).mono fun e W' ⟨he, bel⟩ => ?_
  subst he
  exact ⟨_, rfl, _, _, _, [], _, [], hW', trodAll_mk1 (shut_bool Try.underlying4 _), (trodAll_cons_mk (below_arg acc_laidOut (by kernel_rfl) (of_decide_eq_true (by kernel_rfl)) h0 bel) trodAll_mk0), rfl, bel.frame _, fun h => by cases h⟩

theorem stackPlays_holds : Rows.StackPlaysSaid :=
  OpenClaim.holds_of_wide 3 Try.f3 rfl rfl rfl rfl rfl rfl rfl ⟨rfl, rfl, rfl, rfl, rfl⟩ rfl rfl rfl rfl rfl (by kernel_rfl) Try.func3 (by kernel_rfl)
    (of_decide_eq_true (by kernel_rfl)) (by unfold Func.isWrapper; rw [if_neg (of_decide_eq_false (by kernel_rfl))]; exact ⟨rfl, rfl⟩)
    (fun os started H enc _ => stackPlays_lifted os started H enc)
#print axioms stackPlays_holds

end Go.Proofs.Ytiambljlgmnhaaa
