/-
  Package ref: reading arrays of references.
-/
import Derived.Test.YtdoagpophikgjaaRefRow
namespace Go.Proofs.Ytdoagpophikgjaa
open Go.RowKit Go.Acc
open Go.ChangeShapes Go.WideShapes Go.ChangeAt
theorem ref2_arg {H : Type} {enc : TypeId × Value → H} {W : World} {base : Nat} {v : Value} {d : DataW H} {p : List MemPlace} (k : Value.okWide Try.prog W .any base 37 v) (h : DataW.Trod enc Try.prog W 0 (fun _ => true) true 37 v d p) :
    ∃ p q t v0 p' q' t' v' : Int, v = .agg #[.int .i64 p, .int .i64 q, .int .i64 t, .int .i64 v0, .int .i64 p', .int .i64 q', .int .i64 t', .int .i64 v'] := by
  simp only [Value.okWide, Try.underlying37] at k
  obtain ⟨cs, rfl, hcs, _⟩ := k
  have hC : Try.prog.cellsOf 37 = 8 := by kernel_rfl
  have hD : Try.prog.cellsOf 25 = 4 := by kernel_rfl
  rw [hC] at hcs
  obtain ⟨c0, c1, c2, c3, c4, c5, c6, c7, rfl⟩ : ∃ c0 c1 c2 c3 c4 c5 c6 c7 : Value, cs = #[c0, c1, c2, c3, c4, c5, c6, c7] := by
    match cs, hcs with
    | ⟨[c0, c1, c2, c3, c4, c5, c6, c7]⟩, _ => exact ⟨c0, c1, c2, c3, c4, c5, c6, c7, rfl⟩
  obtain ⟨f, hf⟩ := h
  obtain ⟨xs, m, rfl, _, _, hl, hat⟩ := DataW.trod_array Try.underlying37 hf
  have g0 : xs[0]? = some (xs[0]'(by omega)) := List.getElem?_eq_getElem _
  have g1 : xs[1]? = some (xs[1]'(by omega)) := List.getElem?_eq_getElem _
  generalize Try.prog.cellsOf 25 = k at hD hat
  subst hD
  have h0 : DataW.trod enc Try.prog W 0 (fun _ => true) true m 25 [c0, c1, c2, c3] = some _ := (hat 0 (by omega)).trans g0
  have h1 : DataW.trod enc Try.prog W 0 (fun _ => true) true m 25 [c4, c5, c6, c7] = some _ := (hat 1 (by omega)).trans g1
  obtain ⟨p, q, t, v, e0, e1, e2, e3, _⟩ := ref_cells (v0 := c0) (v1 := c1) (v2 := c2) (v3 := c3) h0
  obtain ⟨p', q', t', v', e4, e5, e6, e7, _⟩ := ref_cells (v0 := c4) (v1 := c5) (v2 := c6) (v3 := c7) h1
  subst e0 e1 e2 e3 e4 e5 e6 e7
  exact ⟨p, q, t, v, p', q', t', v', rfl⟩
end Go.Proofs.Ytdoagpophikgjaa
