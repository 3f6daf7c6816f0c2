/-
  Package ref: the property RefEnds, its row.
-/
import Derived.Test.YtdoagpophikgjaaRefJ
namespace Go.Proofs.Ytdoagpophikgjaa
open Go.RowKit Go.Acc
open Go.ChangeShapes Go.WideShapes Go.ChangeAt
theorem byte_cell {H : Type} {enc : TypeId × Value → H} {W : World} {base : Nat} {spare : Nat → Bool} {held : Bool} {fuel : Nat} {v : Value} {x : DataW H × List MemPlace} (h : DataW.trod enc Try.prog W base spare held fuel 5 [v] = some x) : ∃ b : UInt8, v = .int .u8 (b.toNat : Int) := by
  obtain ⟨n0, e0, _, w0⟩ := DataW.trod_int Try.underlying5 h
  injection e0 with e0
  have := u8_bd w0
  refine ⟨UInt8.ofNat n0.toNat, ?_⟩
  rw [e0, UInt8.toNat_ofNat']
  congr 1
  omega
theorem byte2_arg {H : Type} {enc : TypeId × Value → H} {W : World} {base : Nat} {v : Value} {d : DataW H} {p : List MemPlace} (k : Value.okWide Try.prog W .any base 32 v) (h : DataW.Trod enc Try.prog W 0 (fun _ => true) true 32 v d p) :
    ∃ b0 b1 : UInt8, v = .agg #[.int .u8 (b0.toNat : Int), .int .u8 (b1.toNat : Int)] := by
  simp only [Value.okWide, Try.underlying32] at k
  obtain ⟨cs, rfl, hcs, _⟩ := k
  have hC : Try.prog.cellsOf 32 = 2 := by kernel_rfl
  have hD : Try.prog.cellsOf 5 = 1 := by kernel_rfl
  rw [hC] at hcs
  obtain ⟨c0, c1, rfl⟩ : ∃ c0 c1 : Value, cs = #[c0, c1] := by
    match cs, hcs with
    | ⟨[c0, c1]⟩, _ => exact ⟨c0, c1, rfl⟩
  obtain ⟨f, hf⟩ := h
  obtain ⟨xs, m, rfl, _, _, hl, hat⟩ := DataW.trod_array Try.underlying32 hf
  have g0 : xs[0]? = some (xs[0]'(by omega)) := List.getElem?_eq_getElem _
  have g1 : xs[1]? = some (xs[1]'(by omega)) := List.getElem?_eq_getElem _
  generalize Try.prog.cellsOf 5 = k at hD hat
  subst hD
  have h0 : DataW.trod enc Try.prog W 0 (fun _ => true) true m 5 [c0] = some _ := (hat 0 (by omega)).trans g0
  have h1 : DataW.trod enc Try.prog W 0 (fun _ => true) true m 5 [c1] = some _ := (hat 1 (by omega)).trans g1
  obtain ⟨b0, rfl⟩ := byte_cell h0
  obtain ⟨b1, rfl⟩ := byte_cell h1
  exact ⟨b0, b1, rfl⟩
theorem refEnds_run {H : Type} {enc : TypeId × Value → H} {v0 v1 v2 : Value} {d0 d1 d2 : DataW H} {p0 p1 p2 : List MemPlace} (W : World) (base : Nat) (k0 : Value.okWide Try.prog W .any base 22 v0) (k1 : Value.okWide Try.prog W .any base 3 v1) (k2 : Value.okWide Try.prog W .any base 32 v2)
    (h0 : DataW.Trod enc Try.prog W 0 (fun _ => true) true 22 v0 d0 p0) (h1 : DataW.Trod enc Try.prog W 0 (fun _ => true) true 3 v1 d1 p1) (h2 : DataW.Trod enc Try.prog W 0 (fun _ => true) true 32 v2 d2 p2) :
    Calls Try.prog 4 #[v0, v1, v2] W fun e w' => e = .returned (.bool true) ∧ Below W.heap.size W w' := by
  obtain ⟨A, n, c, l, rfl, hI, hc, _⟩ := bytes_arg k0 h0
  obtain ⟨m, rfl, _⟩ := int_arg k1 h1
  obtain ⟨b0, b1, rfl⟩ := byte2_arg k2 h2
  exact refends_spec A n c m b0 b1 l W hI hc

set_option maxRecDepth 100000 in
theorem refEnds_lifted (os : Os) (started : os.Started) (H : Type) (enc : TypeId × Value → H) :
    ReturnsInHanded {} Try.checked os 4 .any (Rows.refEndsSpec.pre6 enc Try.prog Try.f4 Rows.refEndsRow.domain false) (Rows.refEndsSpec.post enc Try.prog Try.f4 false true false false) := by
  refine returnsInHanded_of_change (C := Try.checked) acc_own started (by kernel_rfl) Try.func4
    (ChangeSpec.witness6 (enc := enc) (C := Try.checked) false ⟨#[], #[.slice none 0 0, .int .i64 0, .agg #[.int .u8 0, .int .u8 0]], []⟩ 8 (by kernel_rfl) (by kernel_rfl) (by kernel_rfl) (by kernel_rfl)) ?_
  intro W base args ds gs before hval0 hW hcnd _
  have hval : ∀ (j : Nat) t v, Try.f4.params[j]? = some t → args[j]? = some v → Value.okWide Try.prog W .any base t v := hval0
  have hW' := hW
  obtain ⟨p, q, hA0, hV, rfl, hfz, hnd⟩ := hW
  have hA : DataW.TrodAll enc Try.prog W 0 (fun _ => true) true Try.f4.params.toList args.toList ds p := hA0
  rw [Try.params4] at hA
  rw [Try.params4] at hval
  obtain ⟨v0, vs0, d0, ds0, p0, q0, hargs, rfl, rfl, h0, r0⟩ := trodAll_cons hA
  obtain ⟨v1, vs1, d1, ds1, p1, q1, rfl, rfl, rfl, h1, r1⟩ := trodAll_cons r0
  obtain ⟨v2, vs2, d2, ds2, p2, q2, rfl, rfl, rfl, h2, r2⟩ := trodAll_cons r1
  obtain ⟨rfl, rfl, rfl⟩ := trodAll_nil r2
  obtain rfl : args = #[v0, v1, v2] := by cases args; simp_all
  obtain ⟨rfl, rfl⟩ := trodVars_none hV
  have k0 := hval 0 22 v0 rfl rfl
  have k1 := hval 1 3 v1 rfl rfl
  have k2 := hval 2 32 v2 rfl rfl
  clear hA0 hval0
  refine (refEnds_run (enc := enc) W base k0 k1 k2 h0 h1 h2).mono fun e W' ⟨he, bel⟩ => ?_
  subst he
  exact ⟨_, rfl, _, _, _, [], _, [], hW', trodAll_mk1 (shut_bool Try.underlying4 _), (trodAll_cons_mk (below_arg acc_laidOut (by kernel_rfl) (of_decide_eq_true (by kernel_rfl)) h0 bel) (trodAll_cons_mk (below_arg acc_laidOut (by kernel_rfl) (of_decide_eq_true (by kernel_rfl)) h1 bel) (trodAll_cons_mk (below_arg acc_laidOut (by kernel_rfl) (of_decide_eq_true (by kernel_rfl)) h2 bel) trodAll_mk0))), rfl, bel.frame _, fun h => by cases h⟩

theorem refEnds_holds : Rows.RefEndsSaid :=
  OpenClaim.holds_of_wide 4 Try.f4 rfl rfl rfl rfl rfl rfl rfl ⟨rfl, rfl, rfl, rfl, rfl⟩ rfl rfl rfl rfl rfl (by kernel_rfl) Try.func4 (by kernel_rfl)
    (of_decide_eq_true (by kernel_rfl)) (by unfold Func.isWrapper; rw [if_neg (of_decide_eq_false (by kernel_rfl))]; exact ⟨rfl, rfl⟩)
    (fun os started H enc _ => refEnds_lifted os started H enc)
#print axioms refEnds_holds
end Go.Proofs.Ytdoagpophikgjaa
