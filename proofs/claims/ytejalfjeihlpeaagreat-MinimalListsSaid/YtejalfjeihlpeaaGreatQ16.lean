/-
  Package ref: reading the arguments of the properties.
  The head of an argument, b[:min(len(b), N)], under one name.
  Package list: the property ListTells.
  Package list: what holds of a vector and of its elements, in plain terms.
  Package text: the first byte 00, the library's IndexByte and Equal, the types as bytes.
  Package text: the types as bytes.
  make([]byte, n): a row of zeros of the call's own; a literal slice of bytes as a row of the call's own.
-/
import Derived.Test.YtejalfjeihlpeaaGreatQ15
import Derived.Lib.BytesEntry
namespace Go.Proofs.YtejalfjeihlpeaaGreat
open Go.ChangeShapes Go.WideShapes Go.ChangeAt Go.RowKit Go.Acc
section
variable {H : Type} {enc : TypeId × Value → H} {W : World} {base : Nat} {spare : Nat → Bool} {held : Bool}
set_option maxRecDepth 100000 in
theorem ref_arg {v : Value} {d : DataW H} {ps : List MemPlace} (k : Value.okWide Tryz.prog W .any base 48 v) (h : DataW.Trod enc Tryz.prog W 0 (fun _ => true) true 48 v d ps) :
    ∃ p q t x : Int, v = .agg #[.int .i64 p, .int .i64 q, .int .i64 t, .int .i64 x] ∧ (-9223372036854775808 ≤ p ∧ p ≤ 9223372036854775807) ∧ (-9223372036854775808 ≤ q ∧ q ≤ 9223372036854775807) ∧ (-9223372036854775808 ≤ t ∧ t ≤ 9223372036854775807) ∧ (-9223372036854775808 ≤ x ∧ x ≤ 9223372036854775807) := by
  obtain ⟨v0, v1, v2, v3, y0, y1, y2, y3, n, rfl, _, _, t0, t1, t2, t3⟩ := Joins.open_agg4 Tryz.underlying48 (by kernel_rfl) (by kernel_rfl) k h
  obtain ⟨n0, e0, _, w0⟩ := DataW.trod_int Tryz.underlying3 t0
  obtain ⟨n1, e1, _, w1⟩ := DataW.trod_int Tryz.underlying3 t1
  obtain ⟨n2, e2, _, w2⟩ := DataW.trod_int Tryz.underlying3 t2
  obtain ⟨n3, e3, _, w3⟩ := DataW.trod_int Tryz.underlying3 t3
  obtain rfl : v0 = .int .i64 n0 := by simpa using e0
  obtain rfl : v1 = .int .i64 n1 := by simpa using e1
  obtain rfl : v2 = .int .i64 n2 := by simpa using e2
  obtain rfl : v3 = .int .i64 n3 := by simpa using e3
  exact ⟨n0, n1, n2, n3, rfl, i64_bd w0, i64_bd w1, i64_bd w2, i64_bd w3⟩
set_option maxRecDepth 100000 in
/-- The four cells of a reference inside an array. -/
theorem ref_cells {fuel : Nat} {v0 v1 v2 v3 : Value} {x : DataW H × List MemPlace} (h : DataW.trod enc Tryz.prog W base spare held fuel 48 [v0, v1, v2, v3] = some x) :
    ∃ p q t v : Int, v0 = .int .i64 p ∧ v1 = .int .i64 q ∧ v2 = .int .i64 t ∧ v3 = .int .i64 v ∧ (-9223372036854775808 ≤ p ∧ p ≤ 9223372036854775807) ∧ (-9223372036854775808 ≤ q ∧ q ≤ 9223372036854775807) ∧ (-9223372036854775808 ≤ t ∧ t ≤ 9223372036854775807) ∧ (-9223372036854775808 ≤ v ∧ v ≤ 9223372036854775807) := by
  obtain ⟨ys, n', _, _, _, hyl, hf⟩ := DataW.trod_struct Tryz.underlying48 h
  have hys : ys.length = 4 := hyl
  have hC : Tryz.prog.cellsOf 3 = 1 := by kernel_rfl
  have f0 : DataW.trod enc Tryz.prog W base spare held n' 3 (([v0, v1, v2, v3].drop 0).take (Tryz.prog.cellsOf 3)) = ys[0]? := hf 0 _ rfl
  have f1 : DataW.trod enc Tryz.prog W base spare held n' 3 (([v0, v1, v2, v3].drop 1).take (Tryz.prog.cellsOf 3)) = ys[1]? := hf 1 _ rfl
  have f2 : DataW.trod enc Tryz.prog W base spare held n' 3 (([v0, v1, v2, v3].drop 2).take (Tryz.prog.cellsOf 3)) = ys[2]? := hf 2 _ rfl
  have f3 : DataW.trod enc Tryz.prog W base spare held n' 3 (([v0, v1, v2, v3].drop 3).take (Tryz.prog.cellsOf 3)) = ys[3]? := hf 3 _ rfl
  have g0 : ys[0]? = some (ys[0]'(by omega)) := List.getElem?_eq_getElem _
  have g1 : ys[1]? = some (ys[1]'(by omega)) := List.getElem?_eq_getElem _
  have g2 : ys[2]? = some (ys[2]'(by omega)) := List.getElem?_eq_getElem _
  have g3 : ys[3]? = some (ys[3]'(by omega)) := List.getElem?_eq_getElem _
  rw [hC] at f0 f1 f2 f3
  obtain ⟨n0, e0, _, w0⟩ := DataW.trod_int Tryz.underlying3 (f0.trans g0)
  obtain ⟨n1, e1, _, w1⟩ := DataW.trod_int Tryz.underlying3 (f1.trans g1)
  obtain ⟨n2, e2, _, w2⟩ := DataW.trod_int Tryz.underlying3 (f2.trans g2)
  obtain ⟨n3, e3, _, w3⟩ := DataW.trod_int Tryz.underlying3 (f3.trans g3)
  injection e0 with e0
  injection e1 with e1
  injection e2 with e2
  injection e3 with e3
  exact ⟨n0, n1, n2, n3, e0, e1, e2, e3, i64_bd w0, i64_bd w1, i64_bd w2, i64_bd w3⟩
end
end Go.Proofs.YtejalfjeihlpeaaGreat

namespace Go.Proofs.YtejalfjeihlpeaaGreat
open Go.RowKit Go.Acc
theorem cut_run (A : Option Addr) (n c M : Nat) (h : M ≤ c) (w : World) : (Instr.sliceAt 22 (.slice A n c) none (some (.int .i64 M)) none).run Tryz.prog w = .ok (.slice A M c) w := by
  have ht : Tryz.prog.underlying 22 = some (.slice (Tryz.prog.elem 22)) := by kernel_rfl
  have hz : (sizeOf (Tryz.prog.elem 22)).run Tryz.prog w = .ok 1 w := by kernel_rfl
  rw [run_sliceAt_slice (h := ht), run_slice_h (ht := ht) (h0 := by omega) (h2 := by omega), hz]
  simp [Result.andThen, sliced]
  intro _
  cases A <;> simp [Addr.add]
theorem cut_facts (A : Option Addr) (n c B : Nat) (b : Int) (hb : b = B) (hc : n ≤ c) : ∃ M : Nat, M ≤ n ∧ M ≤ B ∧ (if b < (n : Int) then b else (n : Int)) = (M : Int) ∧
    ∀ w, (Instr.sliceAt 22 (.slice A n c) none (some (.int .i64 M)) none).run Tryz.prog w = .ok (.slice A M c) w := by
  subst hb
  by_cases h : n ≤ B
  · exact ⟨n, Nat.le_refl _, h, if_neg (by omega), fun w => cut_run A n c n hc w⟩
  · exact ⟨B, by omega, Nat.le_refl _, if_pos (by omega), fun w => cut_run A n c B (by omega) w⟩
/-- b[lo:hi], its address under one name. -/
theorem cut_any (A : Option Addr) (n c lo hi : Nat) (h1 : lo ≤ hi) (h2 : hi ≤ n) (hc : n ≤ c) : ∃ X, (∀ w, (Instr.sliceAt 22 (.slice A n c) (some (.int .i64 lo)) (some (.int .i64 hi)) none).run Tryz.prog w = .ok (.slice X (hi - lo) (c - lo)) w) ∧
    ∀ w l, IsB w A n l → IsB w X (hi - lo) ((l.drop lo).take (hi - lo)) := by
  refine ⟨if c = lo then A else A.map (·.add lo), fun w => ?_, fun w l h => ?_⟩
  · have ht : Tryz.prog.underlying 22 = some (.slice (Tryz.prog.elem 22)) := by kernel_rfl
    have hz : (sizeOf (Tryz.prog.elem 22)).run Tryz.prog w = .ok 1 w := by kernel_rfl
    rw [run_sliceAt_slice (h := ht), run_slice_lh (ht := ht) (h0 := by omega) (h1 := by omega) (h2 := by omega), hz]
    simp [Result.andThen, sliced]
  · split
    · have e : hi - lo = 0 := by omega
      rw [e, List.take_zero]
      exact Is.nil _ _
    · exact isb_part h (by omega)
/-- b[lo:hi:hi], its address under one name. -/
theorem cut_full (A : Option Addr) (n c lo hi : Nat) (h1 : lo ≤ hi) (h2 : hi ≤ n) (hc : n ≤ c) : ∃ X, (∀ w, (Instr.sliceAt 22 (.slice A n c) (some (.int .i64 lo)) (some (.int .i64 hi)) (some (.int .i64 hi))).run Tryz.prog w = .ok (.slice X (hi - lo) (hi - lo)) w) ∧
    ∀ w l, IsB w A n l → IsB w X (hi - lo) ((l.drop lo).take (hi - lo)) := by
  refine ⟨if hi = lo then A else A.map (·.add lo), fun w => ?_, fun w l h => ?_⟩
  · have ht : Tryz.prog.underlying 22 = some (.slice (Tryz.prog.elem 22)) := by kernel_rfl
    have hz : (sizeOf (Tryz.prog.elem 22)).run Tryz.prog w = .ok 1 w := by kernel_rfl
    rw [run_sliceAt_slice (h := ht), run_slice_lhm (ht := ht) (h0 := by omega) (h1 := by omega) (h2 := by omega) (h3 := by omega), hz]
    simp [Result.andThen, sliced]
  · split
    · have e : hi - lo = 0 := by omega
      rw [e, List.take_zero]
      exact Is.nil _ _
    · exact isb_part h (by omega)
end Go.Proofs.YtejalfjeihlpeaaGreat

namespace Go.Proofs.YtejalfjeihlpeaaGreat
open Go.RowKit Go.Acc
theorem rspans_is (A : Option Addr) (n c : Nat) (p q t v f a o er : Int) (l : List UInt8) (w : World) (h : IsB w A n l) (hn : n ≤ 1099511627776) (h1 : (lsFrom l p q t v : Int) = f) (h2 : (lsAt l p q t v : Int) = a) (h3 : (lsTo l p q t v : Int) = o) (h4 : lsE l p q t v = er) :
    Calls Tryz.prog 102 #[.slice A n c, .agg #[.int .i64 p, .int .i64 q, .int .i64 t, .int .i64 v]] w fun e w' => e = .returned (.tuple #[.int .i64 f, .int .i64 a, .int .i64 o, .int .i64 er]) ∧ Below w.heap.size w w' := by
  subst h1 h2 h3 h4
  exact rspans_spec A n c p q t v l w h hn
theorem rlen_is (A : Option Addr) (n c : Nat) (p q t v k er : Int) (l : List UInt8) (w : World) (h : IsB w A n l) (hn : n ≤ 1099511627776) (h1 : (lsLen l p q t v : Int) = k) (h4 : lsE l p q t v = er) :
    Calls Tryz.prog 79 #[.slice A n c, .agg #[.int .i64 p, .int .i64 q, .int .i64 t, .int .i64 v]] w fun e w' => e = .returned (.tuple #[.int .i64 k, .int .i64 er]) ∧ Below w.heap.size w w' := by
  subst h1 h4
  exact rlen_spec A n c p q t v l w h hn
theorem rat_is (A : Option Addr) (n c : Nat) (p q t v i a b d g er : Int) (l : List UInt8) (w : World) (h : IsB w A n l) (hn : n ≤ 1099511627776) (h1 : atP l p q t v i = a) (h2 : atQ l p q t v i = b) (h3 : atT l p q t v i = d) (h4 : atV l p q t v i = g) (h5 : atE l p q t v i = er) :
    Calls Tryz.prog 80 #[.slice A n c, .agg #[.int .i64 p, .int .i64 q, .int .i64 t, .int .i64 v], .int .i64 i] w fun e w' => e = .returned (.tuple #[.agg #[.int .i64 a, .int .i64 b, .int .i64 d, .int .i64 g], .int .i64 er]) ∧ Below w.heap.size w w' := by
  subst h1 h2 h3 h4 h5
  exact rat_spec A n c p q t v i l w h hn
open Go.ChangeShapes Go.WideShapes Go.ChangeAt
end Go.Proofs.YtejalfjeihlpeaaGreat

namespace Go.Proofs.YtejalfjeihlpeaaGreat
open Go.RowKit Go.Acc
theorem isl_vec {t : Int} (h : isL t = true) : tgs t = if vecT t = true then 0 else 1 := by
  unfold isL at h
  unfold tgs tagT
  cases hv : vecT t with
  | true =>
    cases ht : decide (t = 9 ∨ t = 10) with
    | false => rfl
    | true => exact absurd (tag_vec (t := t) ht) (by rw [hv]; decide)
  | false =>
    rw [hv, Bool.or_false] at h
    rw [h]
    rfl
theorem isl_tag {t : Int} (h : isL t = true) : tagT t = !vecT t := by
  have h1 := isl_vec h
  unfold tgs at h1
  cases hv : vecT t <;> cases ht : tagT t <;> rw [hv, ht] at h1 <;> first | rfl | (exact absurd h1 (by decide))
theorem ls_within {l : List UInt8} {p q t : Int} {V : Nat} (h : lsE l p q t V = 0) :
    lsFrom l p q t V ≤ lsAt l p q t V ∧ lsAt l p q t V + (lsLen l p q t V * V + lsLen l p q t V * tgs t) = lsTo l p q t V ∧ lsTo l p q t V ≤ l.length ∧ (V = 1 ∨ V = 2 ∨ V = 4 ∨ V = 8) ∧ (lsAt l p q t V : Int) % V = 0 ∧ isL t = true := by
  obtain ⟨h1, _, h2, h3, _, _, _, _, h4⟩ := ls_ok h
  have hw := isW_iff.1 h2
  rw [Int.toNat_natCast] at h3
  have hT : lsTo l p q t V = lsAt l p q t V + lsLen l p q t V * (V + tgs t) := by
    unfold lsTo lsAt lsLen
    rw [if_pos h, if_pos h, if_pos h]
    unfold lsX
    rw [Int.toNat_natCast]
  have hF : lsFrom l p q t V ≤ lsAt l p q t V := by
    unfold lsFrom lsAt
    rw [if_pos h, if_pos h]
    exact Nat.sub_le _ _
  exact ⟨hF, by rw [hT, Nat.mul_add], by rw [hT]; exact h3, by omega, h4, h1⟩
theorem unw_isW {c : UInt8} (h : unE c = 0) : legalT (unT c) = true ∧ isW (unW c) = true := by
  unfold unE at h
  by_cases hl : legalT ((c.toNat : Int) / 4) = true
  · unfold unT unW
    rw [if_pos hl, if_pos hl]
    refine ⟨hl, ?_⟩
    have : c.toNat % 4 = 0 ∨ c.toNat % 4 = 1 ∨ c.toNat % 4 = 2 ∨ c.toNat % 4 = 3 := by omega
    rcases this with e | e | e | e <;> rw [e] <;> rfl
  · rw [if_neg hl] at h; cases h
theorem vec_elem {t : Int} (h : vecT t = true) : legalT (elemT t) = true := by
  cases ht : isT t with
  | false =>
    unfold vecT at h
    rw [tRow_no ht] at h
    cases h
  | true =>
    revert h
    refine t37_all (p := fun t => vecT t = true → legalT (elemT t) = true) ?_ ht
    decide
theorem elem_may {l : List UInt8} {p q t : Int} {V I : Nat} (h : lsE l p q t V = 0) (hi : I < lsLen l p q t V) :
    (atE l p q t V I = 20 ∧ vecT t = false) ∨
    (atE l p q t V I = 0 ∧ atP l p q t V I = (lsAt l p q t V : Int) + (I : Int) * (V : Int) ∧ atQ l p q t V I = V ∧ mayE l.length ((lsAt l p q t V : Int) + (I : Int) * (V : Int)) V (atT l p q t V I) (atV l p q t V I) = 0 ∧
      (vecT t = true → atT l p q t V I = elemT t ∧ atV l p q t V I = V)) := by
  obtain ⟨_, h2, h3, hV, _, hL⟩ := ls_within h
  obtain ⟨_, _, hW, _⟩ := ls_ok h
  have htag := isl_tag hL
  have hb : lsAt l p q t V + I * V + V ≤ l.length := by
    have := Nat.mul_le_mul_right V (show I + 1 ≤ lsLen l p q t V by omega)
    rw [Nat.succ_mul] at this
    omega
  have hin : ¬ ((I : Int) < 0 ∨ (lsLen l p q t V : Int) ≤ I) := by omega
  have hE : atE l p q t V I = if tagT t = true then unE (tagB l p q t V I) else 0 := by
    unfold atE
    rw [if_neg (by rw [h]; decide), if_neg hin]
  have hIB : inB l.length ((lsAt l p q t V : Int) + (I : Int) * (V : Int)) V = true := by
    rw [inB_iff, ← Int.natCast_mul]
    omega
  have hmay : ∀ T X : Int, legalT T = true → isW X = true → mayE l.length ((lsAt l p q t V : Int) + (I : Int) * (V : Int)) V T X = 0 := by
    intro T X hT hX
    exact mayE_ok.2 ⟨formed_iff.2 ⟨hT, hW, hX⟩, hIB⟩
  have hPQ : atE l p q t V I = 0 → atP l p q t V I = (lsAt l p q t V : Int) + (I : Int) * (V : Int) ∧ atQ l p q t V I = V := by
    intro e
    unfold atP atQ
    rw [if_pos e, if_pos e]
    exact ⟨by rw [Int.toNat_natCast, Int.toNat_natCast, Int.natCast_mul], rfl⟩
  cases hv : vecT t with
  | true =>
    rw [hv] at htag
    rw [htag] at hE
    replace hE : atE l p q t V I = 0 := hE
    have hT : atT l p q t V I = elemT t := by unfold atT; rw [if_pos hE, htag]; rfl
    have hX : atV l p q t V I = V := by unfold atV; rw [if_pos hE, htag]; rfl
    refine .inr ⟨hE, (hPQ hE).1, (hPQ hE).2, ?_, fun _ => ⟨hT, hX⟩⟩
    rw [hT, hX]
    exact hmay _ _ (vec_elem hv) hW
  | false =>
    rw [hv] at htag
    rw [htag] at hE
    replace hE : atE l p q t V I = unE (tagB l p q t V I) := hE
    by_cases hu : unE (tagB l p q t V I) = 0
    · have h0 := hE.trans hu
      obtain ⟨g1, g2⟩ := unw_isW hu
      have hT : atT l p q t V I = unT (tagB l p q t V I) := by unfold atT; rw [if_pos h0, htag]; rfl
      have hX : atV l p q t V I = unW (tagB l p q t V I) := by unfold atV; rw [if_pos h0, htag]; rfl
      refine .inr ⟨h0, (hPQ h0).1, (hPQ h0).2, ?_, fun e => by cases e⟩
      rw [hT, hX]
      exact hmay _ _ g1 g2
    · refine .inl ⟨?_, rfl⟩
      rw [hE]
      unfold unE at hu ⊢
      split
      · rename_i hl; rw [if_pos hl] at hu; exact absurd rfl hu
      · rfl
theorem at_none {l : List UInt8} {p q t v i er : Int} (h : atE l p q t v i = er) (hne : er ≠ 0) : atP l p q t v i = 0 ∧ atQ l p q t v i = 0 ∧ atT l p q t v i = 0 ∧ atV l p q t v i = 0 := by
  unfold atP atQ atT atV
  rw [h, if_neg hne, if_neg hne, if_neg hne, if_neg hne]
  exact ⟨rfl, rfl, rfl, rfl⟩
theorem at_out {l : List UInt8} {p q t v i : Int} (h : lsE l p q t v = 0) (hi : i < 0 ∨ (lsLen l p q t v : Int) ≤ i) : atE l p q t v i = 6 := by
  unfold atE
  rw [if_neg (by rw [h]; decide), if_pos hi]
end Go.Proofs.YtejalfjeihlpeaaGreat

namespace Go.Proofs.YtejalfjeihlpeaaGreat
open Go.RowKit Go.Acc
/-- The first place from a on that holds 00; the length, if there is none. -/
def zeroAt (l : List UInt8) (a : Nat) : Nat := a + (l.drop a).findIdx (· == 0)
theorem zeroAt_hit {l : List UInt8} {k : Nat} (hk : k < l.length) (h : l[k] = 0) : zeroAt l k = k := by
  unfold zeroAt
  rw [List.drop_eq_getElem_cons hk, List.findIdx_cons, h]
  rfl
theorem zeroAt_miss {l : List UInt8} {k : Nat} (hk : k < l.length) (h : l[k] ≠ 0) : zeroAt l (k + 1) = zeroAt l k := by
  unfold zeroAt
  rw [List.drop_eq_getElem_cons hk, List.findIdx_cons]
  have : (l[k] == 0) = false := by simpa using h
  rw [this]
  simp only [cond_false]
  omega
theorem zeroAt_end (l : List UInt8) : zeroAt l l.length = l.length := by
  unfold zeroAt
  simp
theorem zeroAt_le {l : List UInt8} {k : Nat} (hk : k ≤ l.length) : k ≤ zeroAt l k ∧ zeroAt l k ≤ l.length := by
  unfold zeroAt
  have := List.findIdx_le_length (xs := l.drop k) (p := (· == 0))
  rw [List.length_drop] at this
  omega
theorem zeroAt_get {l : List UInt8} {k : Nat} (hk : zeroAt l k < l.length) : l[zeroAt l k] = 0 := by
  unfold zeroAt at hk ⊢
  have h : (l.drop k).findIdx (· == 0) < (l.drop k).length := by rw [List.length_drop]; omega
  have := List.findIdx_getElem (w := h)
  rw [List.getElem_drop] at this
  simpa using this
theorem zeroAt_lt {l : List UInt8} {k j : Nat} (hj : k ≤ j) (hz : j < zeroAt l k) (hl : j < l.length) : l[j] ≠ 0 := by
  unfold zeroAt at hz
  have h : j - k < (l.drop k).findIdx (· == 0) := by omega
  have := List.not_of_lt_findIdx h
  rw [List.getElem_drop] at this
  simp only [show k + (j - k) = j by omega] at this
  simpa using this
set_option maxHeartbeats 400000 in
theorem end_spec (A : Option Addr) (n c a : Nat) (l : List UInt8) (w : World) (h : IsB w A n l) (ha : a ≤ n) (hn : n ≤ 9223372036854775807) :
    Calls Tryz.prog 155 #[.slice A n c, .int .i64 a] w fun e w' => e = .returned (.tuple #[.int .i64 (zeroAt l a : Nat), .bool (decide (zeroAt l a < n))]) ∧ w = w' := by
  have hlen := h.1
  subst hlen
  have HI := Lib.hid h
  clear h
  go_enter Tryz.func155, Tryz.ntmps155
  go_wp2
  go_step3
  go_wp2
  go_step3
  go_wp2
  go_loop [6] (fun i => ∃ k : Nat, k ≤ l.length ∧ i = .int .i64 k ∧ zeroAt l k = zeroAt l a) (fun i => l.length - (intOf i).toNat)
  case atStart => exact ⟨a, ha, rfl, rfl⟩
  case round =>
    obtain ⟨k, hk, rfl, hz⟩ := hrel
    have HZ := Lib.hid hz
    clear hz
    by_cases hlt : k < l.length
    · obtain ⟨b, off, rfl, hkl, hc⟩ := isb_at HI.out hlt
      by_cases h0 : l[k] = 0
      · have HE := Lib.hid (show zeroAt l a = k by rw [← HZ.out, zeroAt_hit hlt h0])
        rw [h0] at hc
        clear h0
        go_wp2
        try rw [Exit.noGoto_ret]
        go_ret2
        rw [HE.out]
        exact ⟨by simp [hlt], rfl⟩
      · have HE := Lib.hid ((zeroAt_miss hlt h0).trans HZ.out)
        have hb : (l[k].toNat == 0) = false := by
          rw [beq_eq_false_iff_ne]
          intro e
          exact h0 (UInt8.toNat_inj.1 e)
        clear h0
        go_wp2
        go_round
        case rel => exact ⟨k + 1, by omega, by go_num, HE.out⟩
        case measure => simp [intOf]; omega
    · obtain rfl : l.length = k := by omega
      have HE := Lib.hid (show zeroAt l a = l.length by rw [← HZ.out, zeroAt_end])
      go_wp2
      try rw [Exit.noGoto_ret]
      go_ret2
      rw [HE.out]
      exact ⟨by simp, rfl⟩
set_option maxHeartbeats 400000 in
theorem bequal_spec (A B : Option Addr) (n n' c d : Nat) (l m : List UInt8) (w : World) (ha : IsB w A n l) (hb : IsB w B n' m) :
    Calls Tryz.prog 156 #[.slice A n c, .slice B n' d] w fun e w' => e = .returned (.bool (eqB l m)) ∧ w = w' := by
  have h1 := run_str (c := c) ha
  have h2 := run_str (c := d) hb
  have H := Lib.hid (show (l == m) = eqB l m by unfold eqB; rw [Bool.eq_iff_iff]; simp)
  clear ha hb
  go_enter Tryz.func156, Tryz.ntmps156
  go_wp2
  go_ret
  exact ⟨ret_bool H.out, rfl⟩

theorem idx_ge (l : List UInt8) (c : UInt8) : -1 ≤ Lib.indexByte l c := by
  induction l with
  | nil => simp [Lib.indexByte]
  | cons b l ih =>
    unfold Lib.indexByte
    split
    · omega
    · split <;> omega
theorem idx_neg (l : List UInt8) (c : UInt8) : decide (Lib.indexByte l c < 0) = !(l.contains c) := by
  induction l with
  | nil => simp [Lib.indexByte]
  | cons b l ih =>
    have hg := idx_ge l c
    unfold Lib.indexByte
    by_cases hb : b = c
    · subst hb
      simp
    · have e1 : (b == c) = false := by simpa using hb
      have e2 : (c == b) = false := by simpa using fun e : c = b => hb e.symm
      rw [e1, List.contains_cons, e2, Bool.false_or, ← ih, if_neg (by simp)]
      split
      · rename_i h
        simp only [beq_iff_eq] at h
        rw [h]
      · rename_i h
        simp only [beq_iff_eq] at h
        rw [Bool.eq_iff_iff]
        simp only [decide_eq_true_eq]
        omega
set_option maxRecDepth 100000 in
set_option maxHeartbeats 400000 in
theorem bidx_spec (A : Option Addr) (n c : Nat) (l : List UInt8) (x : UInt8) (v : Int) (w : World) (h : IsB w A n l) (hn : 0 < n) (hv : v = (x.toNat : Int)) :
    Calls Tryz.prog 136 #[.slice A n c, .int .u8 v] w fun e w' => e = .returned (.int .i64 (Lib.indexByte l x)) ∧ w = w' := by
  subst hv
  have hlen := h.1
  subst hlen
  obtain ⟨b, off, rfl, _⟩ := isb_at h hn
  have hc : ∀ i, i < l.length → w.cell? ⟨b, off + i, none⟩ = some (.int .u8 ((l.map fun x : UInt8 => (x.toNat : Int)).getD i 0)) := by
    intro i hi
    obtain ⟨b', off', e, hk, hc⟩ := isb_at h hi
    injection e with e
    injection e with e1 e2
    subst e1 e2
    rw [hc]
    simp [List.getD_eq_getElem?_getD, hk]
  have hr := Lib.run_indexByteSlice (P := Tryz.prog) w b off l.length c (l.map fun x : UInt8 => (x.toNat : Int)) (by simp) hc (x.toNat : Int)
  have e1 : Lib.bytesOf (l.map fun x : UInt8 => (x.toNat : Int)) = l := by
    unfold Lib.bytesOf
    rw [List.map_map]
    conv => rhs; rw [← List.map_id l]
    exact List.map_congr_left (fun x _ => by simp)
  have e2 : ((x.toNat : Int)).toNat.toUInt8 = x := by simp
  rw [e1, e2] at hr
  clear hc e1 e2 h
  go_enter Tryz.func136, Tryz.ntmps136
  go_wp2
  rw [run_callFunc_extern Tryz.func154 (by kernel_rfl) (by kernel_rfl) (by kernel_rfl) (e := Extern.BytealgIndexByte.indexByte) (by kernel_rfl), hr]
  simp only [Result.andThen]
  rw [Oper.upon_value]
  go_wp2
  go_ret
  exact ⟨rfl, rfl⟩
end Go.Proofs.YtejalfjeihlpeaaGreat

namespace Go.Proofs.YtejalfjeihlpeaaGreat
open Go.RowKit Go.Acc
def tc (x : Nat) : List Value := [.int .i64 (x : Int)]
theorem tc_at {w : World} {A : Option Addr} {n k : Nat} {l : List Nat} (h : Is tc w A n l) (hk : k < n) : ∃ b off, A = some ⟨b, off, none⟩ ∧ ∃ hk : k < l.length, w.cell? ⟨b, off + k, none⟩ = some (.int .i64 (l[k] : Nat)) := by
  obtain ⟨b, off, e, hk', hc⟩ := h.at_ (fun _ => rfl) (sz := 1) (by omega) hk
  have := hc 0 (by omega)
  rw [Nat.mul_one, Nat.add_zero] at this
  exact ⟨b, off, e, hk', this⟩
set_option maxHeartbeats 1000000 in
theorem asb_spec (A : Option Addr) (n c : Nat) (ts : List Nat) (w : World) (h : Is tc w A n ts) (hn : n ≤ 100) (ht : ∀ t ∈ ts, t < 256) :
    Calls Tryz.prog 137 #[.slice A n c] w (CopiedB w (ts.map UInt8.ofNat)) := by
  have hlen := h.1
  subst hlen
  have HI := Lib.hid h
  have HT := Lib.hid ht
  clear h ht
  go_enter Tryz.func137, Tryz.ntmps137
  go_wp2
  go_loopw [2, 4, 7] (fun o _ i wr => ∃ (k : Nat) (A0 : Option Addr) (c0 : Nat), k ≤ ts.length ∧ i = .int .i64 k ∧ o = .slice A0 k c0 ∧ OwnB wr w.heap.size A0 k c0 ((ts.take k).map UInt8.ofNat) ∧ Below w.heap.size w wr) (fun _ _ i _ => ts.length - (intOf i).toNat)
  case atStart => exact ⟨0, none, 0, by omega, rfl, rfl, Own.nil _ _, Below.refl _ _⟩
  case round =>
    obtain ⟨k, A0, c0, hk, rfl, rfl, hO, hB⟩ := hrel
    have HO := Lib.hid hO
    have HBr := Lib.hid hB
    clear hO hB
    by_cases hlt : k < ts.length
    · obtain ⟨b, off, rfl, hkl, hc⟩ := tc_at (HI.out.pure HBr.out) hlt
      have hx := HT.out ts[k] (List.getElem_mem hkl)
      have htk : (ts.take (k + 1)).map UInt8.ofNat = (ts.take k).map UInt8.ofNat ++ [UInt8.ofNat ts[k]] := by
        rw [List.take_succ_eq_append_getElem hkl, List.map_append]; rfl
      have HTK := Lib.hid htk
      clear htk
      generalize ts[k] = t at hc hx HTK
      have hw : IntKind.u8.wrap (t : Int) = ((UInt8.ofNat t).toNat : Int) := by
        rw [IntKind.wrap_u8, UInt8.toNat_ofNat']
        omega
      go_wp2_with (at_builtin; refine wpl_app _ rfl (.tmp 11) (.tmp 14) _ rfl 5 _ 1 1 Tryz.underlying22 info_b rfl (by omega) bc_len bc_one _ _ _ _ _ rfl (HO.out.pure ((Below.refl _ _).alloc (Nat.le_refl _) _)) _ _ _ _ rfl (isb_new _ _ (UInt8.ofNat t) hw) (by omega) (by have := HBr.out.size; simp; omega) ?_; intro A1 c1 w4 hown hfr hat; have HO1 := Lib.hid hown; have HF1 := Lib.hid hfr; clear hown hfr hat)
      exact ⟨⟨k + 1, A1, c1, by omega, by go_num, rfl, by rw [HTK.out]; exact HO1.out, below_fr (HBr.out.alloc HBr.out.size _) HF1.out (by rintro j ⟨ad, h, rfl⟩; exact (HO.out.addr ad h).2.1)⟩, by simp [intOf]; omega⟩
    · obtain rfl : k = ts.length := by omega
      go_wp2
      go_ret
      rw [List.take_length] at HO
      exact ⟨A0, _, c0, rfl, HO.out, HBr.out⟩

/-- What find returns: the error, the place, the contents. -/
def keyE (l : List UInt8) (a : Nat) : Int := if zeroAt l a < l.length then 0 else 213
def cntE (l : List UInt8) (a v k : Nat) : Int :=
  if a % v ≠ 0 then 212 else if a < v then 211 else if l.length < a + loadU l ((a : Int) - v) v + k then 211
  else if ((l.drop (a + loadU l ((a : Int) - v) v)).take k) = List.replicate k 0 then 0 else 213
def cntL (l : List UInt8) (a v : Nat) : List UInt8 := (l.drop a).take (loadU l ((a : Int) - v) v)
def keyL (l : List UInt8) (a : Nat) : List UInt8 := (l.drop a).take (zeroAt l a - a)
/-- A found value: the place and a slice that reads as the contents wherever the bytes read as l. -/
def FoundW (w : World) (A0 : Option Addr) (n0 : Nat) (l : List UInt8) (a : Int) (m : List UInt8) (er : Int) (e : Ending) (w' : World) : Prop :=
  ∃ A n c, e = .returned (.tuple #[.agg #[.int .i64 a, .slice A n c], .int .i64 er]) ∧ (∀ w0, IsB w0 A0 n0 l → IsB w0 A n m) ∧ n ≤ c ∧ Below w.heap.size w w'
end Go.Proofs.YtejalfjeihlpeaaGreat

namespace Go.Proofs.YtejalfjeihlpeaaGreat
open Go.RowKit Go.Acc
theorem made_bc (n : Nat) : (madeCells #[.int .u8 0] n).toList = (List.replicate n (0 : UInt8)).flatMap bc := by
  apply List.ext_getElem?
  intro j
  by_cases hj : j < n
  · have h1 := fm_at bc_len (List.replicate n (0 : UInt8)) j 0 (by simpa using hj) (by omega)
    rw [Nat.mul_one, Nat.add_zero, List.getElem_replicate] at h1
    rw [h1]
    simp [madeCells, hj, bc, Nat.mod_one]
  · rw [List.getElem?_eq_none (by simp [madeCells]; omega), List.getElem?_eq_none (by rw [fm_length bc_len]; simp; omega)]
theorem make_b (n : Nat) (hn : n ≤ 1099511627776) : ∃ Z : Array Value, Z.size = n ∧ Z.toList = (List.replicate n (0 : UInt8)).flatMap bc ∧ ∀ W : World, (Instr.makeSlice 22 (.int .i64 (n : Int)) (.int .i64 (n : Int))).run Tryz.prog W = .ok (.slice (some ⟨W.heap.size, 0, none⟩) n n) (W.alloc (.cells Z 5)) := by
  obtain ⟨i, hi, hz, hs, hb⟩ := info_parts info_b
  have hm := made_bc n
  refine ⟨_, ?_, hm, fun W => ?_⟩
  · have := congrArg List.length hm
    rw [fm_length bc_len] at this
    simpa using this
  · have hr := run_make (P := Tryz.prog) W 22 5 i _ Tryz.underlying22 hi hz .i64 .i64 n n (by omega) (Int.le_refl _) (by rw [hb]; omega) (by omega)
    simp only [Int.toNat_natCast, hs, Nat.mul_one] at hr
    exact hr
theorem ownb_lit (W : World) (Z : Array Value) (n B : Nat) (l : List UInt8) (hB : B ≤ W.heap.size) (hn : l.length = n) (hm : n ≤ 1099511627776) (hZ : Z.toList = l.flatMap bc) : OwnB (W.alloc (.cells Z 5)) B (some ⟨W.heap.size, 0, none⟩) n n l := by
  refine ⟨hn, ?_⟩
  have hs : Z.size = n * 1 := by rw [← Array.length_toList, hZ, fm_length bc_len, hn]
  have := World.ownsRow_lit (base := B) (e := 5) (size := 1) W Z n hB (by simp only [maxLen]; omega) hs
  rw [hZ] at this
  exact this
theorem ownb_at {W : World} {g : Nat} (Z : Array Value) (n : Nat) (l : List UInt8) (hg : W.heap.size = g) (hn : l.length = n) (hm : n ≤ 1099511627776) (hZ : Z.toList = l.flatMap bc) : OwnB (W.alloc (.cells Z 5)) g (some ⟨g, 0, none⟩) n n l := by
  subst hg
  exact ownb_lit W Z n _ l (Nat.le_refl _) hn hm hZ
end Go.Proofs.YtejalfjeihlpeaaGreat
