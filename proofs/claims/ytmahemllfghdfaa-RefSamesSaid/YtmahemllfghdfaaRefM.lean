/-
  The property RefSames holds: of three references, those that Same calls alike are alike in both orders and across, and Target answers alike for them.
-/
import Derived.Test.YtmahemllfghdfaaRefL
import Derived.Test.YtmahemllfghdfaaRefRow
namespace Go.Proofs.Ytmahemllfghdfaa
open Go.RowKit Go.Acc
open Go.ChangeShapes Go.WideShapes Go.ChangeAt
set_option maxRecDepth 100000 in
theorem ref3_arg {H : Type} {enc : TypeId × Value → H} {W : World} {base : Nat} {v : Value} {d : DataW H} {p : List MemPlace} (k : Value.okWide Try.prog W .any base 24 v) (h : DataW.Trod enc Try.prog W 0 (fun _ => true) true 24 v d p) :
    ∃ r0 r1 r2 : Rf, v = .agg #[.int .i64 r0.p, .int .i64 r0.q, .int .i64 r0.t, .int .i64 r0.v, .int .i64 r1.p, .int .i64 r1.q, .int .i64 r1.t, .int .i64 r1.v, .int .i64 r2.p, .int .i64 r2.q, .int .i64 r2.t, .int .i64 r2.v] := by
  simp only [Value.okWide, Try.underlying24] at k
  obtain ⟨cs, rfl, hcs, _⟩ := k
  have hC : Try.prog.cellsOf 24 = 12 := by kernel_rfl
  have hD : Try.prog.cellsOf 23 = 4 := by kernel_rfl
  rw [hC] at hcs
  obtain ⟨c0, c1, c2, c3, c4, c5, c6, c7, c8, c9, c10, c11, rfl⟩ : ∃ c0 c1 c2 c3 c4 c5 c6 c7 c8 c9 c10 c11 : Value, cs = #[c0, c1, c2, c3, c4, c5, c6, c7, c8, c9, c10, c11] := by
    match cs, hcs with
    | ⟨[c0, c1, c2, c3, c4, c5, c6, c7, c8, c9, c10, c11]⟩, _ => exact ⟨c0, c1, c2, c3, c4, c5, c6, c7, c8, c9, c10, c11, rfl⟩
  obtain ⟨f, hf⟩ := h
  obtain ⟨xs, m, rfl, _, _, hl, hat⟩ := DataW.trod_array Try.underlying24 hf
  have g0 : xs[0]? = some (xs[0]'(by omega)) := List.getElem?_eq_getElem _
  have g1 : xs[1]? = some (xs[1]'(by omega)) := List.getElem?_eq_getElem _
  have g2 : xs[2]? = some (xs[2]'(by omega)) := List.getElem?_eq_getElem _
  generalize Try.prog.cellsOf 23 = k at hD hat
  subst hD
  have h0 : DataW.trod enc Try.prog W 0 (fun _ => true) true m 23 [c0, c1, c2, c3] = some _ := (hat 0 (by omega)).trans g0
  have h1 : DataW.trod enc Try.prog W 0 (fun _ => true) true m 23 [c4, c5, c6, c7] = some _ := (hat 1 (by omega)).trans g1
  have h2 : DataW.trod enc Try.prog W 0 (fun _ => true) true m 23 [c8, c9, c10, c11] = some _ := (hat 2 (by omega)).trans g2
  obtain ⟨p, q, t, v, e0, e1, e2, e3, _⟩ := ref_cells (v0 := c0) (v1 := c1) (v2 := c2) (v3 := c3) h0
  obtain ⟨p', q', t', v', e4, e5, e6, e7, _⟩ := ref_cells (v0 := c4) (v1 := c5) (v2 := c6) (v3 := c7) h1
  obtain ⟨p2, q2, t2, v2, e8, e9, e10, e11, _⟩ := ref_cells (v0 := c8) (v1 := c9) (v2 := c10) (v3 := c11) h2
  subst e0 e1 e2 e3 e4 e5 e6 e7 e8 e9 e10 e11
  exact ⟨⟨p, q, t, v⟩, ⟨p', q', t', v'⟩, ⟨p2, q2, t2, v2⟩, rfl⟩
theorem refSames_run {H : Type} {enc : TypeId × Value → H} {v0 v1 : Value} {d0 d1 : DataW H} {p0 p1 : List MemPlace} (W : World) (base : Nat) (k0 : Value.okWide Try.prog W .any base 24 v0) (k1 : Value.okWide Try.prog W .any base 25 v1)
    (h0 : DataW.Trod enc Try.prog W 0 (fun _ => true) true 24 v0 d0 p0) (h1 : DataW.Trod enc Try.prog W 0 (fun _ => true) true 25 v1 d1 p1) :
    Calls Try.prog 3 #[v0, v1] W fun e w' => e = .returned (.bool true) ∧ Below W.heap.size W w' := by
  obtain ⟨r0, r1, r2, rfl⟩ := ref3_arg k0 h0
  obtain ⟨A, n, c, l, rfl, hI, hc, _⟩ := bytes_arg k1 h1
  exact refsames_spec A n c r0 r1 r2 l W hI hc

set_option maxRecDepth 100000 in
theorem refSames_lifted (os : Os) (started : os.Started) (H : Type) (enc : TypeId × Value → H) :
    ReturnsInHanded {} Try.checked os 3 .any (Rows.refSamesSpec.pre6 enc Try.prog Try.f3 Rows.refSamesRow.domain false) (Rows.refSamesSpec.post enc Try.prog Try.f3 false true false false) := by
  refine returnsInHanded_of_change (C := Try.checked) acc_own started (by kernel_rfl) Try.func3
    (ChangeSpec.witness6 (enc := enc) (C := Try.checked) false ⟨#[], #[.agg #[.int .i64 0, .int .i64 0, .int .i64 0, .int .i64 0, .int .i64 0, .int .i64 0, .int .i64 0, .int .i64 0, .int .i64 0, .int .i64 0, .int .i64 0, .int .i64 0], .slice none 0 0], []⟩ 8 (by kernel_rfl) (by kernel_rfl) (by kernel_rfl) (by kernel_rfl)) ?_
  intro W base args ds gs before hval0 hW hcnd _
  have hval : ∀ (j : Nat) t v, Try.f3.params[j]? = some t → args[j]? = some v → Value.okWide Try.prog W .any base t v := hval0
  have hW' := hW
  obtain ⟨p, q, hA0, hV, rfl, hfz, hnd⟩ := hW
  have hA : DataW.TrodAll enc Try.prog W 0 (fun _ => true) true Try.f3.params.toList args.toList ds p := hA0
  rw [Try.params3] at hA
  rw [Try.params3] at hval
  obtain ⟨v0, vs0, d0, ds0, p0, q0, hargs, rfl, rfl, h0, r0⟩ := trodAll_cons hA
  obtain ⟨v1, vs1, d1, ds1, p1, q1, rfl, rfl, rfl, h1, r1⟩ := trodAll_cons r0
  obtain ⟨rfl, rfl, rfl⟩ := trodAll_nil r1
  obtain rfl : args = #[v0, v1] := by cases args; simp_all
  obtain ⟨rfl, rfl⟩ := trodVars_none hV
  have k0 := hval 0 24 v0 rfl rfl
  have k1 := hval 1 25 v1 rfl rfl
  clear hA0 hval0
  refine (refSames_run (enc := enc) W base k0 k1 h0 h1).mono fun e W' ⟨he, bel⟩ => ?_
  subst he
  exact ⟨_, rfl, _, _, _, [], _, [], hW', trodAll_mk1 (shut_bool Try.underlying4 _), (trodAll_cons_mk (below_arg acc_laidOut (by kernel_rfl) (of_decide_eq_true (by kernel_rfl)) h0 bel) (trodAll_cons_mk (below_arg acc_laidOut (by kernel_rfl) (of_decide_eq_true (by kernel_rfl)) h1 bel) trodAll_mk0)), rfl, bel.frame _, fun h => by cases h⟩

theorem refSames_holds : Rows.RefSamesSaid :=
  OpenClaim.holds_of_wide 3 Try.f3 rfl rfl rfl rfl rfl rfl rfl ⟨rfl, rfl, rfl, rfl, rfl⟩ rfl rfl rfl rfl rfl (by kernel_rfl) Try.func3 (by kernel_rfl)
    (of_decide_eq_true (by kernel_rfl)) (by unfold Func.isWrapper; rw [if_neg (of_decide_eq_false (by kernel_rfl))]; exact ⟨rfl, rfl⟩)
    (fun os started H enc _ => refSames_lifted os started H enc)
#print axioms refSames_holds
end Go.Proofs.Ytmahemllfghdfaa
