/-
  Package ref: reading the arguments of the properties.
-/
import Derived.Test.YtmahemllfghdfaaRefE
import Derived.Test.YtmahemllfghdfaaLeRow
namespace Go.Proofs.Ytmahemllfghdfaa
open Go.ChangeShapes Go.WideShapes Go.ChangeAt Go.RowKit Go.Acc
section
variable {H : Type} {enc : TypeId × Value → H} {W : World} {base : Nat} {spare : Nat → Bool} {held : Bool}
set_option maxRecDepth 100000 in
theorem ref_arg {v : Value} {d : DataW H} {ps : List MemPlace} (k : Value.okWide Try.prog W .any base 23 v) (h : DataW.Trod enc Try.prog W 0 (fun _ => true) true 23 v d ps) :
    ∃ p q t x : Int, v = .agg #[.int .i64 p, .int .i64 q, .int .i64 t, .int .i64 x] ∧ (-9223372036854775808 ≤ p ∧ p ≤ 9223372036854775807) ∧ (-9223372036854775808 ≤ q ∧ q ≤ 9223372036854775807) ∧ (-9223372036854775808 ≤ t ∧ t ≤ 9223372036854775807) ∧ (-9223372036854775808 ≤ x ∧ x ≤ 9223372036854775807) := by
  obtain ⟨v0, v1, v2, v3, y0, y1, y2, y3, n, rfl, _, _, t0, t1, t2, t3⟩ := Joins.open_agg4 Try.underlying23 (by kernel_rfl) (by kernel_rfl) k h
  obtain ⟨n0, e0, _, w0⟩ := DataW.trod_int Try.underlying3 t0
  obtain ⟨n1, e1, _, w1⟩ := DataW.trod_int Try.underlying3 t1
  obtain ⟨n2, e2, _, w2⟩ := DataW.trod_int Try.underlying3 t2
  obtain ⟨n3, e3, _, w3⟩ := DataW.trod_int Try.underlying3 t3
  obtain rfl : v0 = .int .i64 n0 := by simpa using e0
  obtain rfl : v1 = .int .i64 n1 := by simpa using e1
  obtain rfl : v2 = .int .i64 n2 := by simpa using e2
  obtain rfl : v3 = .int .i64 n3 := by simpa using e3
  exact ⟨n0, n1, n2, n3, rfl, i64_bd w0, i64_bd w1, i64_bd w2, i64_bd w3⟩
set_option maxRecDepth 100000 in
/-- The four cells of a reference inside an array. -/
theorem ref_cells {fuel : Nat} {v0 v1 v2 v3 : Value} {x : DataW H × List MemPlace} (h : DataW.trod enc Try.prog W base spare held fuel 23 [v0, v1, v2, v3] = some x) :
    ∃ p q t v : Int, v0 = .int .i64 p ∧ v1 = .int .i64 q ∧ v2 = .int .i64 t ∧ v3 = .int .i64 v ∧ (-9223372036854775808 ≤ p ∧ p ≤ 9223372036854775807) ∧ (-9223372036854775808 ≤ q ∧ q ≤ 9223372036854775807) ∧ (-9223372036854775808 ≤ t ∧ t ≤ 9223372036854775807) ∧ (-9223372036854775808 ≤ v ∧ v ≤ 9223372036854775807) := by
  obtain ⟨ys, n', _, _, _, hyl, hf⟩ := DataW.trod_struct Try.underlying23 h
  have hys : ys.length = 4 := hyl
  have hC : Try.prog.cellsOf 3 = 1 := by kernel_rfl
  have f0 : DataW.trod enc Try.prog W base spare held n' 3 (([v0, v1, v2, v3].drop 0).take (Try.prog.cellsOf 3)) = ys[0]? := hf 0 _ rfl
  have f1 : DataW.trod enc Try.prog W base spare held n' 3 (([v0, v1, v2, v3].drop 1).take (Try.prog.cellsOf 3)) = ys[1]? := hf 1 _ rfl
  have f2 : DataW.trod enc Try.prog W base spare held n' 3 (([v0, v1, v2, v3].drop 2).take (Try.prog.cellsOf 3)) = ys[2]? := hf 2 _ rfl
  have f3 : DataW.trod enc Try.prog W base spare held n' 3 (([v0, v1, v2, v3].drop 3).take (Try.prog.cellsOf 3)) = ys[3]? := hf 3 _ rfl
  have g0 : ys[0]? = some (ys[0]'(by omega)) := List.getElem?_eq_getElem _
  have g1 : ys[1]? = some (ys[1]'(by omega)) := List.getElem?_eq_getElem _
  have g2 : ys[2]? = some (ys[2]'(by omega)) := List.getElem?_eq_getElem _
  have g3 : ys[3]? = some (ys[3]'(by omega)) := List.getElem?_eq_getElem _
  rw [hC] at f0 f1 f2 f3
  obtain ⟨n0, e0, _, w0⟩ := DataW.trod_int Try.underlying3 (f0.trans g0)
  obtain ⟨n1, e1, _, w1⟩ := DataW.trod_int Try.underlying3 (f1.trans g1)
  obtain ⟨n2, e2, _, w2⟩ := DataW.trod_int Try.underlying3 (f2.trans g2)
  obtain ⟨n3, e3, _, w3⟩ := DataW.trod_int Try.underlying3 (f3.trans g3)
  injection e0 with e0
  injection e1 with e1
  injection e2 with e2
  injection e3 with e3
  exact ⟨n0, n1, n2, n3, e0, e1, e2, e3, i64_bd w0, i64_bd w1, i64_bd w2, i64_bd w3⟩
end
end Go.Proofs.Ytmahemllfghdfaa
