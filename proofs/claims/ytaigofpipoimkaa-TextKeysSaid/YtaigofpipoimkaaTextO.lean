/-
  Package text: a key extends to the first byte 00, in plain terms; append as a step of a region; strings.IndexByte.
-/
import Derived.Test.YtaigofpipoimkaaTextI
import Derived.Test.YtaigofpipoimkaaCut
import Derived.Test.YtaigofpipoimkaaLeP
import Derived.Lib.BytesEntry
namespace Go.Proofs.Ytaigofpipoimkaa
open Go.RowKit Go.Acc
/-- Where the first byte 00 stands. -/
theorem idx_find (l : List UInt8) : Lib.indexByte l 0 = if l.findIdx (· == 0) < l.length then (l.findIdx (· == 0) : Int) else -1 := by
  induction l with
  | nil => rfl
  | cons b l ih =>
    unfold Lib.indexByte
    rw [List.findIdx_cons]
    by_cases hb : b = 0
    · subst hb
      simp
    · have e : (b == 0) = false := by simpa using hb
      rw [e, ih]
      by_cases h : l.findIdx (· == 0) < l.length
      · rw [if_pos h]
        have e2 : ((l.findIdx (· == 0) : Int) == -1) = false := beq_eq_false_iff_ne.mpr (by omega)
        rw [e2]
        simp [h]
      · rw [if_neg h]
        simp [h]
theorem idx_zero {m : List UInt8} {B : Nat} (hB : B ≤ m.length) : Lib.indexByte (m.drop B) 0 = if zeroAt m B < m.length then ((zeroAt m B - B : Nat) : Int) else -1 := by
  rw [idx_find]
  unfold zeroAt
  rw [List.length_drop]
  by_cases h : (m.drop B).findIdx (· == 0) < m.length - B
  · rw [if_pos h, if_pos (by omega), Nat.add_sub_cancel_left]
  · rw [if_neg h, if_neg (by omega)]
theorem idx_key {m : List UInt8} {B : Nat} (hB : B ≤ m.length) : Lib.indexByte (keyL m B) 0 = -1 := by
  rw [idx_find]
  rw [if_neg]
  intro h
  have hz := zeroAt_le hB
  unfold keyL at h
  have hf := List.findIdx_getElem (p := fun x : UInt8 => x == 0) (xs := (m.drop B).take (zeroAt m B - B)) (w := h)
  simp only [List.getElem_take, List.getElem_drop, beq_iff_eq] at hf
  rw [List.length_take, List.length_drop] at h
  exact zeroAt_lt (k := B) (Nat.le_add_right _ _) (by omega) (by omega) hf
/-- The bytes with the offset laid between, and the key that it leads to. -/
def tkL (l : List UInt8) (K N : Nat) : List UInt8 := l.take K ++ [UInt8.ofNat N] ++ l.drop K
theorem tkL_len {l : List UInt8} {K N : Nat} (hK : K ≤ l.length) : (tkL l K N).length = l.length + 1 := by
  unfold tkL; simp; omega
theorem tk_load {l : List UInt8} {K N : Nat} (hK : K ≤ l.length) (hN : N ≤ 255) : loadU (tkL l K N) K 1 = N := by
  unfold loadU
  rw [if_pos ⟨by decide, by omega, by rw [tkL_len hK]; omega⟩]
  have hd : (tkL l K N).drop K = [UInt8.ofNat N] ++ l.drop K := by
    unfold tkL
    rw [List.append_assoc, List.drop_append_of_le_length (by simp; omega), List.drop_eq_nil_of_le (by simp; omega), List.nil_append]
  show leVal (((tkL l K N).drop ((K : Int)).toNat).take (1 : Int).toNat) = N
  rw [Int.toNat_natCast, hd]
  show leVal [UInt8.ofNat N] = N
  simp [leVal]
  omega
theorem tk_fnd {l : List UInt8} {K N : Nat} (hK : K ≤ l.length) (hN : N ≤ K) (h255 : N ≤ 255) :
    fndE (tkL l K N) K 1 4 1 [4] = keyE (tkL l K N) (K - N) ∧ (fndE (tkL l K N) K 1 4 1 [4] = 0 → fndL (tkL l K N) K 1 4 1 [4] = keyL (tkL l K N) (K - N)) := by
  have hm : mayE (tkL l K N).length K 1 4 1 = 0 := mayE_ok.2 ⟨by decide, inB_iff.2 ⟨by omega, by omega, by rw [tkL_len hK]; omega⟩⟩
  have hu := tk_load hK h255
  have h1 : tgtE (tkL l K N) K 1 4 1 = 0 := tgtE_ok hm (by decide) (by rw [hu]; omega)
  have h2 : tgt (tkL l K N) K 1 4 1 = ((K - N : Nat) : Int) := by rw [tgt_ok hm (by decide) (by rw [hu]; omega), hu]; omega
  have hE : fndE (tkL l K N) K 1 4 1 [4] = keyE (tkL l K N) (K - N) := by
    unfold fndE
    rw [hm, h1, h2, if_neg (by decide), if_neg (by decide), if_neg (by decide), if_pos rfl, Int.toNat_natCast]
  refine ⟨hE, fun h => ?_⟩
  unfold fndL
  rw [if_pos h, if_pos rfl, h2, Int.toNat_natCast]
set_option maxRecDepth 100000 in
theorem sidx_any (s : ByteArray) (w : World) : Calls Try.prog 30 #[.string s, .int .u8 0] w fun e w' => e = .returned (.int .i64 (Lib.indexByte s.data.toList 0)) ∧ w = w' := by
  have hr := Lib.run_indexByteString (P := Try.prog) s 0 w
  rw [show (0 : Int).toNat.toUInt8 = 0 from rfl] at hr
  have HR := Lib.hid hr
  clear hr
  go_enter Try.func30, Try.ntmps30
  go_wp2
  rw [run_callFunc_extern Try.func113 (by kernel_rfl) (by kernel_rfl) (by kernel_rfl) (e := Extern.BytealgIndexByte.indexByte) (by kernel_rfl), HR.out]
  simp only [Result.andThen]
  rw [Oper.upon_value]
  go_wp2
  go_ret
  exact ⟨rfl, rfl⟩
theorem sidx_spec (s : List UInt8) (w : World) : Calls Try.prog 30 #[.string ⟨s.toArray⟩, .int .u8 0] w fun e w' => e = .returned (.int .i64 (Lib.indexByte s 0)) ∧ w = w' := sidx_any ⟨s.toArray⟩ w
/-- append as a step of a region. -/
theorem step_appB {ops : Array Oper} {o : Oper} {a : Act} {w : World} {K : Act → World → Prop} {Q : Exit → Act → World → Prop} {E : Prop} (hgd : o.guard = none) (s x : Operand)
    (ho : o.op = .call { callee := .builtin .append, args := #[s, x], argTypes := #[25, 25] })
    (B : Nat) (A : Option Addr) (n c : Nat) (l : List UInt8) (hs : a.eval s = .slice A n c) (hown : OwnB w B A n c l)
    (A2 : Option Addr) (m d : Nat) (l2 : List UInt8) (hx : a.eval x = .slice A2 m d) (hr : IsB w A2 m l2)
    (hbytes : n + m ≤ 1099511627776) (hbase : B ≤ w.heap.size)
    (h : ∀ A' c' w', OwnB w' B A' (n + m) c' (l ++ l2) → Fr (fun k => ∃ ad, A = some ad ∧ k = ad.block) w w' → K (a.put o.dst (.slice A' (n + m) c')) w') :
    if Region.wanted o (yielded ops a.tmps) = true then Oper.wp Try.prog o a w K Q else E := by
  have hw : Region.wanted o (yielded ops a.tmps) = true := by simp [Region.wanted, hgd]
  rw [if_pos hw]
  obtain ⟨i, hi', hz, hsize, hby⟩ := info_parts info_b
  have e2 : n + m ≤ maxLen := by simp only [maxLen]; omega
  obtain ⟨v', w', hrun, h2, h3, _⟩ := run_append_rd (P := Try.prog) w B 25 o.type 5 i _ 1 1 Try.underlying25 hi' hz hsize hby rfl (by omega) (.slice A n c) n (l.flatMap bc) hown.2 A2 m d (l2.flatMap bc) (by rw [fm_length bc_len, hr.1]) hr.2 (fm_one bc_one l2) e2 (by omega) hbase
  obtain ⟨A', c', rfl, ho'⟩ := Own.mk bc_len (by omega) (l := l ++ l2) h2 List.flatMap_append.symm
  have hk := h A' c' w' ho' ((Fr.of_grown h3).mono fun i _ hi => by
    cases A with
    | none => simp [Value.ownBlock] at hi
    | some ad => simp [Value.ownBlock] at hi; exact ⟨ad, rfl, hi⟩)
  clear h ho' h2 h3
  unfold Oper.wp
  simp only [execOp, ho, resolve, invoke, builtin, Sem.run_bind, Sem.run_pure, Result.andThen_ok, List.map_toArray, List.map_cons, List.map_nil, hs, hx, hrun]
  exact hk
/-- b[lo:], its address under one name. -/
theorem cut_from (A : Option Addr) (n c lo : Nat) (h1 : lo ≤ n) (hc : n ≤ c) : ∃ X, (∀ w, (Instr.sliceAt 25 (.slice A n c) (some (.int .i64 lo)) none none).run Try.prog w = .ok (.slice X (n - lo) (c - lo)) w) ∧
    ∀ w l, IsB w A n l → IsB w X (n - lo) (l.drop lo) := by
  refine ⟨if c = lo then A else A.map (·.add lo), fun w => ?_, fun w l h => ?_⟩
  · have ht : Try.prog.underlying 25 = some (.slice (Try.prog.elem 25)) := by kernel_rfl
    have hz : (sizeOf (Try.prog.elem 25)).run Try.prog w = .ok 1 w := by kernel_rfl
    rw [run_sliceAt_slice (h := ht), run_slice_l (ht := ht) (h0 := by omega) (h1 := by omega), hz]
    simp [Result.andThen, sliced]
  · have hl := h.1
    split
    · have e : n - lo = 0 := by omega
      rw [e, List.drop_eq_nil_of_le (by omega)]
      exact Is.nil _ _
    · have := isb_part h (k := lo) (x := n - lo) (by omega)
      rw [List.take_of_length_le (by rw [List.length_drop]; omega)] at this
      exact this
end Go.Proofs.Ytaigofpipoimkaa
