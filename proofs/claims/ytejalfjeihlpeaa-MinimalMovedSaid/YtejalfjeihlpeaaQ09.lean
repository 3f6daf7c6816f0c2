/-
  The arguments of a law, opened to cells: integers, slices of structs, slices of slices; and what a law's last step wants.
  Package le: reading the arguments of the properties.
  Package ref: reading the arguments of the properties.
  The head of an argument, b[:min(len(b), N)], under one name.
  Package list: the property ListTells.
  Package list: what holds of a vector and of its elements, in plain terms.
  Package text: the first byte 00, the library's IndexByte and Equal, the types as bytes.
-/
import Derived.Test.YtejalfjeihlpeaaQ08
import Derived.Lib.SmallJoins
import Derived.Lib.BytesEntry
namespace Go.Acc
open Go.RowKit Go.ChangeShapes Go.WideShapes Go.Deep

section
variable {H : Type} {enc : TypeId × Value → H} {P : Program} {W W' : World}
theorem below_arg {t : TypeId} (hl : laidOutB P = true) (hr : P.readableRec t = true) (hrow : t < P.types.size) {v : Value} {d : DataW H} {ps : List MemPlace}
    (h : DataW.Trod enc P W 0 (fun _ => true) true t v d ps) (hb : Below W.heap.size W W') : DataW.Trod enc P W' 0 (fun b => decide (b < W.heap.size)) true t v d ps :=
  Below.trod hl hr hrow h hb (by obtain ⟨m, hm⟩ := h; exact DataW.trod_lt m _ _ _ hm)

/-- An integer's bounds. -/
theorem i64_bd {n : Int} (h : (Lit.int .i64 n).wf = true) : -9223372036854775808 ≤ n ∧ n ≤ 9223372036854775807 := by
  simp [Lit.wf, IntKind.min, IntKind.max, IntKind.signed, IntKind.bits] at h
  exact ⟨by omega, by omega⟩
theorem u64_bd {n : Int} (h : (Lit.int .u64 n).wf = true) : 0 ≤ n ∧ n ≤ 18446744073709551615 := by
  simp [Lit.wf, IntKind.min, IntKind.max, IntKind.signed, IntKind.bits] at h
  exact ⟨by omega, by omega⟩
theorem u8_bd {n : Int} (h : (Lit.int .u8 n).wf = true) : 0 ≤ n ∧ n ≤ 255 := by
  simp [Lit.wf, IntKind.min, IntKind.max, IntKind.signed, IntKind.bits] at h
  exact ⟨by omega, by omega⟩

/-- Elements found one by one make a list. -/
theorem list_of {α : Type} (p : Nat → α → Prop) (n : Nat) (h : ∀ i, i < n → ∃ x, p i x) : ∃ l : List α, l.length = n ∧ ∀ i (hi : i < l.length), p i l[i] := by
  induction n with
  | zero => exact ⟨[], rfl, fun i hi => by simp at hi⟩
  | succ n ih =>
    obtain ⟨l, hl, hp⟩ := ih fun i hi => h i (by omega)
    obtain ⟨x, hx⟩ := h n (by omega)
    refine ⟨l ++ [x], by simp [hl], fun i hi => ?_⟩
    by_cases hin : i < l.length
    · rw [List.getElem_append_left hin]; exact hp i hin
    · have : i = n := by simp at hi; omega
      subst this
      rw [List.getElem_append_right (by omega)]
      simpa [hl] using hx

theorem add_spot {w : World} {a : Addr} {u : Value} (h : w.cell? a = some u) : a = ⟨a.block, a.off, none⟩ := by
  have := spot_of_cell h
  cases a
  simp_all

/-- A slice whose elements read, one by one, as elements of f. -/
theorem is_of_elems {α : Type} {f : α → List Value} {sz : Nat} (hf : ∀ x, (f x).length = sz) (hz : 0 < sz) {w : World} {a : Addr} {n : Nat} (q : α → Prop)
    (h : ∀ i, i < n → ∃ x, q x ∧ ∀ j, j < sz → w.cell? (a.add (i * sz + j)) = (f x)[j]?) : ∃ l, Is f w (some a) n l ∧ ∀ x ∈ l, q x := by
  obtain ⟨l, hl, hp⟩ := list_of _ n h
  refine ⟨l, ⟨hl, fun t u hu => ?_⟩, fun x hx => ?_⟩
  · have ht : t < n * sz := by
      have := (List.getElem?_eq_some_iff.1 hu).1
      rw [fm_length hf, hl] at this
      exact this
    have hpos : 0 < n := by
      rcases Nat.eq_zero_or_pos n with h0 | h0
      · subst h0; simp at ht
      · exact h0
    have h0 := (hp 0 (by omega)).2 0 hz
    rw [List.getElem?_eq_getElem (by rw [hf]; exact hz)] at h0
    have ha : a = ⟨a.block, a.off, none⟩ := by
      have := add_spot h0
      simpa [Addr.add] using add_spot (w := w) (a := a) (by simpa [Addr.add] using h0)
    have hi : t / sz < l.length := by rw [hl]; exact Nat.div_lt_of_lt_mul (by rw [Nat.mul_comm]; exact ht)
    have hj : t % sz < sz := Nat.mod_lt _ hz
    have e : t / sz * sz + t % sz = t := by rw [Nat.mul_comm]; exact Nat.div_add_mod t sz
    have hc := (hp _ hi).2 _ hj
    have hu' := fm_at hf l (t / sz) (t % sz) hi hj
    rw [e, hu] at hu'
    rw [e, ← hu'] at hc
    refine ⟨a.block, a.off, by rw [← ha], ?_⟩
    rw [ha, add_none] at hc
    exact hc
  · obtain ⟨i, hi, rfl⟩ := List.mem_iff_getElem.1 hx
    exact (hp i hi).1

variable {w : World} {base : Nat} {spare : Nat → Bool} {held : Bool}
/-- A slice of structs of one-cell fields: each field of each element, and its own reading. -/
theorem open_fields {t e : TypeId} {fs : Array Field} {fuel : Nat} {cs : List Value} {x : DataW H × List MemPlace} (ht : P.underlying t = some (.slice e)) (he : P.underlying e = some (.struct fs))
    (hone : oneCellFields P fs = true) (hC : P.cellsOf e = fs.size) (h : DataW.trod enc P w base spare held fuel t cs = some x) :
    cs = [.slice none 0 0] ∨
    ∃ (a : Addr) (len cap : Nat), cs = [.slice (some a) len cap] ∧ len ≤ cap ∧ cap ≤ maxLen ∧
      ∀ i, i < len → ∃ n, ∀ (j : Nat) (f : Field), fs[j]? = some f → ∃ (v : Value) (y : DataW H × List MemPlace), w.cell? (a.add (i * fs.size + j)) = some v ∧ DataW.trod enc P w base spare held n f.type [v] = some y := by
  rcases open_slice ht h with ⟨h0, _⟩ | ⟨a, len, cap, m, n, D, Pl, hcs, hb, hl, hm, hmm, _, hi⟩
  · exact .inl h0
  · refine .inr ⟨a, len, cap, hcs, hl, hm, fun i hil => ?_⟩
    obtain ⟨cs', hc, ht'⟩ := hi i (by rw [hmm]; split <;> omega)
    rw [hC] at hc
    obtain ⟨ys, n', _, _, _, hyl, hf⟩ := DataW.trod_struct he ht'
    obtain ⟨_, hcl, hat⟩ := World.cells?_some hc
    refine ⟨n', fun j f hj => ?_⟩
    obtain ⟨ho, hk⟩ := hone_of hone j f hj
    have hjl : j < fs.size := (Array.getElem?_eq_some_iff.1 hj).1
    have hcell := hat j hjl
    have hv : cs'[j]? = some (cs'[j]'(by omega)) := List.getElem?_eq_getElem (by omega)
    have h1 := hf j f hj
    rw [ho, hk] at h1
    have hone' : (cs'.drop j).take 1 = [cs'[j]'(by omega)] := by
      rw [List.drop_eq_getElem_cons (by omega)]
      rfl
    rw [hone'] at h1
    have hys : ys[j]? = some (ys[j]'(by omega)) := List.getElem?_eq_getElem (by omega)
    refine ⟨_, _, ?_, h1.trans hys⟩
    rw [← Go.Deep.add_add, hcell, hv]
end
end Go.Acc

namespace Go.Proofs.Ytejalfjeihlpeaa
open Go.ChangeShapes Go.WideShapes Go.ChangeAt Go.RowKit Go.Acc
theorem acc_own : ownKnob Try.prog.godebug = none := by kernel_rfl
theorem acc_laidOut : laidOutB Try.prog = true := by kernel_rfl
section
variable {H : Type} {enc : TypeId × Value → H} {W : World} {base : Nat} {spare : Nat → Bool} {held : Bool}
/-- A slice of bytes, read. -/
theorem bytes_read {fuel : Nat} {v : Value} {x : DataW H × List MemPlace} (h : DataW.trod enc Try.prog W base spare held fuel 22 [v] = some x) :
    ∃ A n c l, v = .slice A n c ∧ IsB W A n l ∧ n ≤ c ∧ n ≤ 9223372036854775807 := by
  rcases open_ints Try.underlying22 Try.underlying5 (by kernel_rfl) h with ⟨e, _⟩ | ⟨a, n, c, zs, e, _, hl, hm, hz, _, hcell, hwf⟩
  · obtain rfl : v = .slice none 0 0 := by simpa using e
    exact ⟨none, 0, 0, [], rfl, Is.nil _ _, by omega, by omega⟩
  · obtain rfl : v = .slice (some a) n c := by simpa using e
    simp only [maxLen] at hm
    have hzn : n ≤ zs.length := by rw [hz]; split <;> omega
    obtain ⟨l, hl', _⟩ := is_of_elems (f := bc) (sz := 1) bc_len (by omega) (w := W) (a := a) (n := n) (fun _ => True) (fun i hi => by
      have hc := hcell i (by omega)
      have hb := u8_bd (hwf (zs.getD i 0) (by rw [List.getD_eq_getElem?_getD, List.getElem?_eq_getElem (show i < zs.length by omega)]; exact List.getElem_mem _))
      refine ⟨UInt8.ofNat (zs.getD i 0).toNat, trivial, fun j hj => ?_⟩
      obtain rfl : j = 0 := by omega
      have e : ((UInt8.ofNat (zs.getD i 0).toNat).toNat : Int) = zs.getD i 0 := by rw [UInt8.toNat_ofNat']; omega
      rw [Nat.mul_one, Nat.add_zero, hc]
      show _ = some (Value.int .u8 _)
      rw [e])
    exact ⟨some a, n, c, l, rfl, hl', hl, by omega⟩
set_option maxRecDepth 100000 in
/-- An argument that is a slice of bytes. -/
theorem bytes_arg {v : Value} {d : DataW H} {p : List MemPlace} (k : Value.okWide Try.prog W .any base 22 v) (h : DataW.Trod enc Try.prog W 0 (fun _ => true) true 22 v d p) :
    ∃ A n c l, v = .slice A n c ∧ IsB W A n l ∧ n ≤ c ∧ n ≤ 9223372036854775807 := by
  obtain ⟨_, _, _, rfl⟩ := okWide_slice Try.underlying22 k
  obtain ⟨f, hf⟩ := h
  exact bytes_read hf
set_option maxRecDepth 100000 in
theorem int_arg {v : Value} {d : DataW H} {p : List MemPlace} (k : Value.okWide Try.prog W .any base 3 v) (h : DataW.Trod enc Try.prog W 0 (fun _ => true) true 3 v d p) :
    ∃ m : Int, v = .int .i64 m ∧ -9223372036854775808 ≤ m ∧ m ≤ 9223372036854775807 := by
  obtain ⟨m, rfl⟩ := okWide_int Try.underlying3 k
  obtain ⟨f, hf⟩ := h
  obtain ⟨m', e, _, hw⟩ := DataW.trod_int Try.underlying3 hf
  obtain rfl : m = m' := by simpa [Value.cells] using e
  exact ⟨m, rfl, i64_bd hw⟩
set_option maxRecDepth 100000 in
theorem u64_arg {v : Value} {d : DataW H} {p : List MemPlace} (k : Value.okWide Try.prog W .any base 72 v) (h : DataW.Trod enc Try.prog W 0 (fun _ => true) true 72 v d p) :
    ∃ u : Nat, v = .int .u64 u ∧ (u : Int) < 18446744073709551616 := by
  obtain ⟨m, rfl⟩ := okWide_int Try.underlying72 k
  obtain ⟨f, hf⟩ := h
  obtain ⟨m', e, _, hw⟩ := DataW.trod_int Try.underlying72 hf
  obtain rfl : m = m' := by simpa [Value.cells] using e
  have := u64_bd hw
  obtain ⟨u, rfl⟩ := Int.eq_ofNat_of_zero_le this.1
  exact ⟨u, rfl, by have := this.2; omega⟩
end
end Go.Proofs.Ytejalfjeihlpeaa

namespace Go.Proofs.Ytejalfjeihlpeaa
open Go.ChangeShapes Go.WideShapes Go.ChangeAt Go.RowKit Go.Acc
section
variable {H : Type} {enc : TypeId × Value → H} {W : World} {base : Nat} {spare : Nat → Bool} {held : Bool}
set_option maxRecDepth 100000 in
theorem ref_arg {v : Value} {d : DataW H} {ps : List MemPlace} (k : Value.okWide Try.prog W .any base 40 v) (h : DataW.Trod enc Try.prog W 0 (fun _ => true) true 40 v d ps) :
    ∃ p q t x : Int, v = .agg #[.int .i64 p, .int .i64 q, .int .i64 t, .int .i64 x] ∧ (-9223372036854775808 ≤ p ∧ p ≤ 9223372036854775807) ∧ (-9223372036854775808 ≤ q ∧ q ≤ 9223372036854775807) ∧ (-9223372036854775808 ≤ t ∧ t ≤ 9223372036854775807) ∧ (-9223372036854775808 ≤ x ∧ x ≤ 9223372036854775807) := by
  obtain ⟨v0, v1, v2, v3, y0, y1, y2, y3, n, rfl, _, _, t0, t1, t2, t3⟩ := Joins.open_agg4 Try.underlying40 (by kernel_rfl) (by kernel_rfl) k h
  obtain ⟨n0, e0, _, w0⟩ := DataW.trod_int Try.underlying3 t0
  obtain ⟨n1, e1, _, w1⟩ := DataW.trod_int Try.underlying3 t1
  obtain ⟨n2, e2, _, w2⟩ := DataW.trod_int Try.underlying3 t2
  obtain ⟨n3, e3, _, w3⟩ := DataW.trod_int Try.underlying3 t3
  obtain rfl : v0 = .int .i64 n0 := by simpa using e0
  obtain rfl : v1 = .int .i64 n1 := by simpa using e1
  obtain rfl : v2 = .int .i64 n2 := by simpa using e2
  obtain rfl : v3 = .int .i64 n3 := by simpa using e3
  exact ⟨n0, n1, n2, n3, rfl, i64_bd w0, i64_bd w1, i64_bd w2, i64_bd w3⟩
set_option maxRecDepth 100000 in
/-- The four cells of a reference inside an array. -/
theorem ref_cells {fuel : Nat} {v0 v1 v2 v3 : Value} {x : DataW H × List MemPlace} (h : DataW.trod enc Try.prog W base spare held fuel 40 [v0, v1, v2, v3] = some x) :
    ∃ p q t v : Int, v0 = .int .i64 p ∧ v1 = .int .i64 q ∧ v2 = .int .i64 t ∧ v3 = .int .i64 v ∧ (-9223372036854775808 ≤ p ∧ p ≤ 9223372036854775807) ∧ (-9223372036854775808 ≤ q ∧ q ≤ 9223372036854775807) ∧ (-9223372036854775808 ≤ t ∧ t ≤ 9223372036854775807) ∧ (-9223372036854775808 ≤ v ∧ v ≤ 9223372036854775807) := by
  obtain ⟨ys, n', _, _, _, hyl, hf⟩ := DataW.trod_struct Try.underlying40 h
  have hys : ys.length = 4 := hyl
  have hC : Try.prog.cellsOf 3 = 1 := by kernel_rfl
  have f0 : DataW.trod enc Try.prog W base spare held n' 3 (([v0, v1, v2, v3].drop 0).take (Try.prog.cellsOf 3)) = ys[0]? := hf 0 _ rfl
  have f1 : DataW.trod enc Try.prog W base spare held n' 3 (([v0, v1, v2, v3].drop 1).take (Try.prog.cellsOf 3)) = ys[1]? := hf 1 _ rfl
  have f2 : DataW.trod enc Try.prog W base spare held n' 3 (([v0, v1, v2, v3].drop 2).take (Try.prog.cellsOf 3)) = ys[2]? := hf 2 _ rfl
  have f3 : DataW.trod enc Try.prog W base spare held n' 3 (([v0, v1, v2, v3].drop 3).take (Try.prog.cellsOf 3)) = ys[3]? := hf 3 _ rfl
  have g0 : ys[0]? = some (ys[0]'(by omega)) := List.getElem?_eq_getElem _
  have g1 : ys[1]? = some (ys[1]'(by omega)) := List.getElem?_eq_getElem _
  have g2 : ys[2]? = some (ys[2]'(by omega)) := List.getElem?_eq_getElem _
  have g3 : ys[3]? = some (ys[3]'(by omega)) := List.getElem?_eq_getElem _
  rw [hC] at f0 f1 f2 f3
  obtain ⟨n0, e0, _, w0⟩ := DataW.trod_int Try.underlying3 (f0.trans g0)
  obtain ⟨n1, e1, _, w1⟩ := DataW.trod_int Try.underlying3 (f1.trans g1)
  obtain ⟨n2, e2, _, w2⟩ := DataW.trod_int Try.underlying3 (f2.trans g2)
  obtain ⟨n3, e3, _, w3⟩ := DataW.trod_int Try.underlying3 (f3.trans g3)
  injection e0 with e0
  injection e1 with e1
  injection e2 with e2
  injection e3 with e3
  exact ⟨n0, n1, n2, n3, e0, e1, e2, e3, i64_bd w0, i64_bd w1, i64_bd w2, i64_bd w3⟩
end
end Go.Proofs.Ytejalfjeihlpeaa

namespace Go.Proofs.Ytejalfjeihlpeaa
open Go.RowKit Go.Acc
theorem cut_run (A : Option Addr) (n c M : Nat) (h : M ≤ c) (w : World) : (Instr.sliceAt 22 (.slice A n c) none (some (.int .i64 M)) none).run Try.prog w = .ok (.slice A M c) w := by
  have ht : Try.prog.underlying 22 = some (.slice (Try.prog.elem 22)) := by kernel_rfl
  have hz : (sizeOf (Try.prog.elem 22)).run Try.prog w = .ok 1 w := by kernel_rfl
  rw [run_sliceAt_slice (h := ht), run_slice_h (ht := ht) (h0 := by omega) (h2 := by omega), hz]
  simp [Result.andThen, sliced]
  intro _
  cases A <;> simp [Addr.add]
theorem cut_facts (A : Option Addr) (n c B : Nat) (b : Int) (hb : b = B) (hc : n ≤ c) : ∃ M : Nat, M ≤ n ∧ M ≤ B ∧ (if b < (n : Int) then b else (n : Int)) = (M : Int) ∧
    ∀ w, (Instr.sliceAt 22 (.slice A n c) none (some (.int .i64 M)) none).run Try.prog w = .ok (.slice A M c) w := by
  subst hb
  by_cases h : n ≤ B
  · exact ⟨n, Nat.le_refl _, h, if_neg (by omega), fun w => cut_run A n c n hc w⟩
  · exact ⟨B, by omega, Nat.le_refl _, if_pos (by omega), fun w => cut_run A n c B (by omega) w⟩
/-- b[lo:hi], its address under one name. -/
theorem cut_any (A : Option Addr) (n c lo hi : Nat) (h1 : lo ≤ hi) (h2 : hi ≤ n) (hc : n ≤ c) : ∃ X, (∀ w, (Instr.sliceAt 22 (.slice A n c) (some (.int .i64 lo)) (some (.int .i64 hi)) none).run Try.prog w = .ok (.slice X (hi - lo) (c - lo)) w) ∧
    ∀ w l, IsB w A n l → IsB w X (hi - lo) ((l.drop lo).take (hi - lo)) := by
  refine ⟨if c = lo then A else A.map (·.add lo), fun w => ?_, fun w l h => ?_⟩
  · have ht : Try.prog.underlying 22 = some (.slice (Try.prog.elem 22)) := by kernel_rfl
    have hz : (sizeOf (Try.prog.elem 22)).run Try.prog w = .ok 1 w := by kernel_rfl
    rw [run_sliceAt_slice (h := ht), run_slice_lh (ht := ht) (h0 := by omega) (h1 := by omega) (h2 := by omega), hz]
    simp [Result.andThen, sliced]
  · split
    · have e : hi - lo = 0 := by omega
      rw [e, List.take_zero]
      exact Is.nil _ _
    · exact isb_part h (by omega)
/-- b[lo:hi:hi], its address under one name. -/
theorem cut_full (A : Option Addr) (n c lo hi : Nat) (h1 : lo ≤ hi) (h2 : hi ≤ n) (hc : n ≤ c) : ∃ X, (∀ w, (Instr.sliceAt 22 (.slice A n c) (some (.int .i64 lo)) (some (.int .i64 hi)) (some (.int .i64 hi))).run Try.prog w = .ok (.slice X (hi - lo) (hi - lo)) w) ∧
    ∀ w l, IsB w A n l → IsB w X (hi - lo) ((l.drop lo).take (hi - lo)) := by
  refine ⟨if hi = lo then A else A.map (·.add lo), fun w => ?_, fun w l h => ?_⟩
  · have ht : Try.prog.underlying 22 = some (.slice (Try.prog.elem 22)) := by kernel_rfl
    have hz : (sizeOf (Try.prog.elem 22)).run Try.prog w = .ok 1 w := by kernel_rfl
    rw [run_sliceAt_slice (h := ht), run_slice_lhm (ht := ht) (h0 := by omega) (h1 := by omega) (h2 := by omega) (h3 := by omega), hz]
    simp [Result.andThen, sliced]
  · split
    · have e : hi - lo = 0 := by omega
      rw [e, List.take_zero]
      exact Is.nil _ _
    · exact isb_part h (by omega)
end Go.Proofs.Ytejalfjeihlpeaa

namespace Go.Proofs.Ytejalfjeihlpeaa
open Go.RowKit Go.Acc
open Go.ChangeShapes Go.WideShapes Go.ChangeAt
end Go.Proofs.Ytejalfjeihlpeaa

namespace Go.Proofs.Ytejalfjeihlpeaa
open Go.RowKit Go.Acc
theorem isl_vec {t : Int} (h : isL t = true) : tgs t = if vecT t = true then 0 else 1 := by
  unfold isL at h
  unfold tgs tagT
  cases hv : vecT t with
  | true =>
    cases ht : decide (t = 9 ∨ t = 10) with
    | false => rfl
    | true => exact absurd (tag_vec (t := t) ht) (by rw [hv]; decide)
  | false =>
    rw [hv, Bool.or_false] at h
    rw [h]
    rfl
theorem isl_tag {t : Int} (h : isL t = true) : tagT t = !vecT t := by
  have h1 := isl_vec h
  unfold tgs at h1
  cases hv : vecT t <;> cases ht : tagT t <;> rw [hv, ht] at h1 <;> first | rfl | (exact absurd h1 (by decide))
theorem ls_within {l : List UInt8} {p q t : Int} {V : Nat} (h : lsE l p q t V = 0) :
    lsFrom l p q t V ≤ lsAt l p q t V ∧ lsAt l p q t V + (lsLen l p q t V * V + lsLen l p q t V * tgs t) = lsTo l p q t V ∧ lsTo l p q t V ≤ l.length ∧ (V = 1 ∨ V = 2 ∨ V = 4 ∨ V = 8) ∧ (lsAt l p q t V : Int) % V = 0 ∧ isL t = true := by
  obtain ⟨h1, _, h2, h3, _, _, _, _, h4⟩ := ls_ok h
  have hw := isW_iff.1 h2
  rw [Int.toNat_natCast] at h3
  have hT : lsTo l p q t V = lsAt l p q t V + lsLen l p q t V * (V + tgs t) := by
    unfold lsTo lsAt lsLen
    rw [if_pos h, if_pos h, if_pos h]
    unfold lsX
    rw [Int.toNat_natCast]
  have hF : lsFrom l p q t V ≤ lsAt l p q t V := by
    unfold lsFrom lsAt
    rw [if_pos h, if_pos h]
    exact Nat.sub_le _ _
  exact ⟨hF, by rw [hT, Nat.mul_add], by rw [hT]; exact h3, by omega, h4, h1⟩
theorem unw_isW {c : UInt8} (h : unE c = 0) : legalT (unT c) = true ∧ isW (unW c) = true := by
  unfold unE at h
  by_cases hl : legalT ((c.toNat : Int) / 4) = true
  · unfold unT unW
    rw [if_pos hl, if_pos hl]
    refine ⟨hl, ?_⟩
    have : c.toNat % 4 = 0 ∨ c.toNat % 4 = 1 ∨ c.toNat % 4 = 2 ∨ c.toNat % 4 = 3 := by omega
    rcases this with e | e | e | e <;> rw [e] <;> rfl
  · rw [if_neg hl] at h; cases h
theorem vec_elem {t : Int} (h : vecT t = true) : legalT (elemT t) = true := by
  cases ht : isT t with
  | false =>
    unfold vecT at h
    rw [tRow_no ht] at h
    cases h
  | true =>
    revert h
    refine t37_all (p := fun t => vecT t = true → legalT (elemT t) = true) ?_ ht
    decide
theorem elem_may {l : List UInt8} {p q t : Int} {V I : Nat} (h : lsE l p q t V = 0) (hi : I < lsLen l p q t V) :
    (atE l p q t V I = 20 ∧ vecT t = false) ∨
    (atE l p q t V I = 0 ∧ atP l p q t V I = (lsAt l p q t V : Int) + (I : Int) * (V : Int) ∧ atQ l p q t V I = V ∧ mayE l.length ((lsAt l p q t V : Int) + (I : Int) * (V : Int)) V (atT l p q t V I) (atV l p q t V I) = 0 ∧
      (vecT t = true → atT l p q t V I = elemT t ∧ atV l p q t V I = V)) := by
  obtain ⟨_, h2, h3, hV, _, hL⟩ := ls_within h
  obtain ⟨_, _, hW, _⟩ := ls_ok h
  have htag := isl_tag hL
  have hb : lsAt l p q t V + I * V + V ≤ l.length := by
    have := Nat.mul_le_mul_right V (show I + 1 ≤ lsLen l p q t V by omega)
    rw [Nat.succ_mul] at this
    omega
  have hin : ¬ ((I : Int) < 0 ∨ (lsLen l p q t V : Int) ≤ I) := by omega
  have hE : atE l p q t V I = if tagT t = true then unE (tagB l p q t V I) else 0 := by
    unfold atE
    rw [if_neg (by rw [h]; decide), if_neg hin]
  have hIB : inB l.length ((lsAt l p q t V : Int) + (I : Int) * (V : Int)) V = true := by
    rw [inB_iff, ← Int.natCast_mul]
    omega
  have hmay : ∀ T X : Int, legalT T = true → isW X = true → mayE l.length ((lsAt l p q t V : Int) + (I : Int) * (V : Int)) V T X = 0 := by
    intro T X hT hX
    exact mayE_ok.2 ⟨formed_iff.2 ⟨hT, hW, hX⟩, hIB⟩
  have hPQ : atE l p q t V I = 0 → atP l p q t V I = (lsAt l p q t V : Int) + (I : Int) * (V : Int) ∧ atQ l p q t V I = V := by
    intro e
    unfold atP atQ
    rw [if_pos e, if_pos e]
    exact ⟨by rw [Int.toNat_natCast, Int.toNat_natCast, Int.natCast_mul], rfl⟩
  cases hv : vecT t with
  | true =>
    rw [hv] at htag
    rw [htag] at hE
    replace hE : atE l p q t V I = 0 := hE
    have hT : atT l p q t V I = elemT t := by unfold atT; rw [if_pos hE, htag]; rfl
    have hX : atV l p q t V I = V := by unfold atV; rw [if_pos hE, htag]; rfl
    refine .inr ⟨hE, (hPQ hE).1, (hPQ hE).2, ?_, fun _ => ⟨hT, hX⟩⟩
    rw [hT, hX]
    exact hmay _ _ (vec_elem hv) hW
  | false =>
    rw [hv] at htag
    rw [htag] at hE
    replace hE : atE l p q t V I = unE (tagB l p q t V I) := hE
    by_cases hu : unE (tagB l p q t V I) = 0
    · have h0 := hE.trans hu
      obtain ⟨g1, g2⟩ := unw_isW hu
      have hT : atT l p q t V I = unT (tagB l p q t V I) := by unfold atT; rw [if_pos h0, htag]; rfl
      have hX : atV l p q t V I = unW (tagB l p q t V I) := by unfold atV; rw [if_pos h0, htag]; rfl
      refine .inr ⟨h0, (hPQ h0).1, (hPQ h0).2, ?_, fun e => by cases e⟩
      rw [hT, hX]
      exact hmay _ _ g1 g2
    · refine .inl ⟨?_, rfl⟩
      rw [hE]
      unfold unE at hu ⊢
      split
      · rename_i hl; rw [if_pos hl] at hu; exact absurd rfl hu
      · rfl
theorem at_none {l : List UInt8} {p q t v i er : Int} (h : atE l p q t v i = er) (hne : er ≠ 0) : atP l p q t v i = 0 ∧ atQ l p q t v i = 0 ∧ atT l p q t v i = 0 ∧ atV l p q t v i = 0 := by
  unfold atP atQ atT atV
  rw [h, if_neg hne, if_neg hne, if_neg hne, if_neg hne]
  exact ⟨rfl, rfl, rfl, rfl⟩
theorem at_out {l : List UInt8} {p q t v i : Int} (h : lsE l p q t v = 0) (hi : i < 0 ∨ (lsLen l p q t v : Int) ≤ i) : atE l p q t v i = 6 := by
  unfold atE
  rw [if_neg (by rw [h]; decide), if_pos hi]
end Go.Proofs.Ytejalfjeihlpeaa

namespace Go.Proofs.Ytejalfjeihlpeaa
open Go.RowKit Go.Acc
/-- The first place from a on that holds 00; the length, if there is none. -/
def zeroAt (l : List UInt8) (a : Nat) : Nat := a + (l.drop a).findIdx (· == 0)
theorem zeroAt_hit {l : List UInt8} {k : Nat} (hk : k < l.length) (h : l[k] = 0) : zeroAt l k = k := by
  unfold zeroAt
  rw [List.drop_eq_getElem_cons hk, List.findIdx_cons, h]
  rfl
theorem zeroAt_miss {l : List UInt8} {k : Nat} (hk : k < l.length) (h : l[k] ≠ 0) : zeroAt l (k + 1) = zeroAt l k := by
  unfold zeroAt
  rw [List.drop_eq_getElem_cons hk, List.findIdx_cons]
  have : (l[k] == 0) = false := by simpa using h
  rw [this]
  simp only [cond_false]
  omega
theorem zeroAt_end (l : List UInt8) : zeroAt l l.length = l.length := by
  unfold zeroAt
  simp
theorem zeroAt_le {l : List UInt8} {k : Nat} (hk : k ≤ l.length) : k ≤ zeroAt l k ∧ zeroAt l k ≤ l.length := by
  unfold zeroAt
  have := List.findIdx_le_length (xs := l.drop k) (p := (· == 0))
  rw [List.length_drop] at this
  omega
theorem zeroAt_get {l : List UInt8} {k : Nat} (hk : zeroAt l k < l.length) : l[zeroAt l k] = 0 := by
  unfold zeroAt at hk ⊢
  have h : (l.drop k).findIdx (· == 0) < (l.drop k).length := by rw [List.length_drop]; omega
  have := List.findIdx_getElem (w := h)
  rw [List.getElem_drop] at this
  simpa using this
theorem zeroAt_lt {l : List UInt8} {k j : Nat} (hj : k ≤ j) (hz : j < zeroAt l k) (hl : j < l.length) : l[j] ≠ 0 := by
  unfold zeroAt at hz
  have h : j - k < (l.drop k).findIdx (· == 0) := by omega
  have := List.not_of_lt_findIdx h
  rw [List.getElem_drop] at this
  simp only [show k + (j - k) = j by omega] at this
  simpa using this
set_option maxHeartbeats 400000 in
theorem end_spec (A : Option Addr) (n c a : Nat) (l : List UInt8) (w : World) (h : IsB w A n l) (ha : a ≤ n) (hn : n ≤ 9223372036854775807) :
    Calls Try.prog 106 #[.slice A n c, .int .i64 a] w fun e w' => e = .returned (.tuple #[.int .i64 (zeroAt l a : Nat), .bool (decide (zeroAt l a < n))]) ∧ w = w' := by
  have hlen := h.1
  subst hlen
  have HI := Lib.hid h
  clear h
  go_enter Try.func106, Try.ntmps106
  go_wp2
  go_step3
  go_wp2
  go_step3
  go_wp2
  go_loop [6] (fun i => ∃ k : Nat, k ≤ l.length ∧ i = .int .i64 k ∧ zeroAt l k = zeroAt l a) (fun i => l.length - (intOf i).toNat)
  case atStart => exact ⟨a, ha, rfl, rfl⟩
  case round =>
    obtain ⟨k, hk, rfl, hz⟩ := hrel
    have HZ := Lib.hid hz
    clear hz
    by_cases hlt : k < l.length
    · obtain ⟨b, off, rfl, hkl, hc⟩ := isb_at HI.out hlt
      by_cases h0 : l[k] = 0
      · have HE := Lib.hid (show zeroAt l a = k by rw [← HZ.out, zeroAt_hit hlt h0])
        rw [h0] at hc
        clear h0
        go_wp2
        try rw [Exit.noGoto_ret]
        go_ret2
        rw [HE.out]
        exact ⟨by simp [hlt], rfl⟩
      · have HE := Lib.hid ((zeroAt_miss hlt h0).trans HZ.out)
        have hb : (l[k].toNat == 0) = false := by
          rw [beq_eq_false_iff_ne]
          intro e
          exact h0 (UInt8.toNat_inj.1 e)
        clear h0
        go_wp2
        go_round
        case rel => exact ⟨k + 1, by omega, by go_num, HE.out⟩
        case measure => simp [intOf]; omega
    · obtain rfl : l.length = k := by omega
      have HE := Lib.hid (show zeroAt l a = l.length by rw [← HZ.out, zeroAt_end])
      go_wp2
      try rw [Exit.noGoto_ret]
      go_ret2
      rw [HE.out]
      exact ⟨by simp, rfl⟩
set_option maxHeartbeats 400000 in
theorem bequal_spec (A B : Option Addr) (n n' c d : Nat) (l m : List UInt8) (w : World) (ha : IsB w A n l) (hb : IsB w B n' m) :
    Calls Try.prog 107 #[.slice A n c, .slice B n' d] w fun e w' => e = .returned (.bool (eqB l m)) ∧ w = w' := by
  have h1 := run_str (c := c) ha
  have h2 := run_str (c := d) hb
  have H := Lib.hid (show (l == m) = eqB l m by unfold eqB; rw [Bool.eq_iff_iff]; simp)
  clear ha hb
  go_enter Try.func107, Try.ntmps107
  go_wp2
  go_ret
  exact ⟨ret_bool H.out, rfl⟩

theorem idx_ge (l : List UInt8) (c : UInt8) : -1 ≤ Lib.indexByte l c := by
  induction l with
  | nil => simp [Lib.indexByte]
  | cons b l ih =>
    unfold Lib.indexByte
    split
    · omega
    · split <;> omega
theorem idx_neg (l : List UInt8) (c : UInt8) : decide (Lib.indexByte l c < 0) = !(l.contains c) := by
  induction l with
  | nil => simp [Lib.indexByte]
  | cons b l ih =>
    have hg := idx_ge l c
    unfold Lib.indexByte
    by_cases hb : b = c
    · subst hb
      simp
    · have e1 : (b == c) = false := by simpa using hb
      have e2 : (c == b) = false := by simpa using fun e : c = b => hb e.symm
      rw [e1, List.contains_cons, e2, Bool.false_or, ← ih, if_neg (by simp)]
      split
      · rename_i h
        simp only [beq_iff_eq] at h
        rw [h]
      · rename_i h
        simp only [beq_iff_eq] at h
        rw [Bool.eq_iff_iff]
        simp only [decide_eq_true_eq]
        omega
set_option maxRecDepth 100000 in
set_option maxHeartbeats 400000 in
theorem bidx_spec (A : Option Addr) (n c : Nat) (l : List UInt8) (x : UInt8) (v : Int) (w : World) (h : IsB w A n l) (hn : 0 < n) (hv : v = (x.toNat : Int)) :
    Calls Try.prog 87 #[.slice A n c, .int .u8 v] w fun e w' => e = .returned (.int .i64 (Lib.indexByte l x)) ∧ w = w' := by
  subst hv
  have hlen := h.1
  subst hlen
  obtain ⟨b, off, rfl, _⟩ := isb_at h hn
  have hc : ∀ i, i < l.length → w.cell? ⟨b, off + i, none⟩ = some (.int .u8 ((l.map fun x : UInt8 => (x.toNat : Int)).getD i 0)) := by
    intro i hi
    obtain ⟨b', off', e, hk, hc⟩ := isb_at h hi
    injection e with e
    injection e with e1 e2
    subst e1 e2
    rw [hc]
    simp [List.getD_eq_getElem?_getD, hk]
  have hr := Lib.run_indexByteSlice (P := Try.prog) w b off l.length c (l.map fun x : UInt8 => (x.toNat : Int)) (by simp) hc (x.toNat : Int)
  have e1 : Lib.bytesOf (l.map fun x : UInt8 => (x.toNat : Int)) = l := by
    unfold Lib.bytesOf
    rw [List.map_map]
    conv => rhs; rw [← List.map_id l]
    exact List.map_congr_left (fun x _ => by simp)
  have e2 : ((x.toNat : Int)).toNat.toUInt8 = x := by simp
  rw [e1, e2] at hr
  clear hc e1 e2 h
  go_enter Try.func87, Try.ntmps87
  go_wp2
  rw [run_callFunc_extern Try.func105 (by kernel_rfl) (by kernel_rfl) (by kernel_rfl) (e := Extern.BytealgIndexByte.indexByte) (by kernel_rfl), hr]
  simp only [Result.andThen]
  rw [Oper.upon_value]
  go_wp2
  go_ret
  exact ⟨rfl, rfl⟩
end Go.Proofs.Ytejalfjeihlpeaa
