/-
  Package text: the first byte 00, the library's IndexByte and Equal, the types as bytes.
-/
import Derived.Test.YtaigofpipoimkaaRefD
import Derived.Test.YtaigofpipoimkaaLeI
import Derived.Lib.BytesEntry
namespace Go.Proofs.Ytaigofpipoimkaa
open Go.RowKit Go.Acc
/-- The first place from a on that holds 00; the length, if there is none. -/
def zeroAt (l : List UInt8) (a : Nat) : Nat := a + (l.drop a).findIdx (· == 0)
theorem zeroAt_hit {l : List UInt8} {k : Nat} (hk : k < l.length) (h : l[k] = 0) : zeroAt l k = k := by
  unfold zeroAt
  rw [List.drop_eq_getElem_cons hk, List.findIdx_cons, h]
  rfl
theorem zeroAt_miss {l : List UInt8} {k : Nat} (hk : k < l.length) (h : l[k] ≠ 0) : zeroAt l (k + 1) = zeroAt l k := by
  unfold zeroAt
  rw [List.drop_eq_getElem_cons hk, List.findIdx_cons]
  have : (l[k] == 0) = false := by simpa using h
  rw [this]
  simp only [cond_false]
  omega
theorem zeroAt_end (l : List UInt8) : zeroAt l l.length = l.length := by
  unfold zeroAt
  simp
theorem zeroAt_le {l : List UInt8} {k : Nat} (hk : k ≤ l.length) : k ≤ zeroAt l k ∧ zeroAt l k ≤ l.length := by
  unfold zeroAt
  have := List.findIdx_le_length (xs := l.drop k) (p := (· == 0))
  rw [List.length_drop] at this
  omega
theorem zeroAt_get {l : List UInt8} {k : Nat} (hk : zeroAt l k < l.length) : l[zeroAt l k] = 0 := by
  unfold zeroAt at hk ⊢
  have h : (l.drop k).findIdx (· == 0) < (l.drop k).length := by rw [List.length_drop]; omega
  have := List.findIdx_getElem (w := h)
  rw [List.getElem_drop] at this
  simpa using this
theorem zeroAt_lt {l : List UInt8} {k j : Nat} (hj : k ≤ j) (hz : j < zeroAt l k) (hl : j < l.length) : l[j] ≠ 0 := by
  unfold zeroAt at hz
  have h : j - k < (l.drop k).findIdx (· == 0) := by omega
  have := List.not_of_lt_findIdx h
  rw [List.getElem_drop] at this
  simp only [show k + (j - k) = j by omega] at this
  simpa using this
set_option maxHeartbeats 400000 in
theorem end_spec (A : Option Addr) (n c a : Nat) (l : List UInt8) (w : World) (h : IsB w A n l) (ha : a ≤ n) (hn : n ≤ 9223372036854775807) :
    Calls Try.prog 136 #[.slice A n c, .int .i64 a] w fun e w' => e = .returned (.tuple #[.int .i64 (zeroAt l a : Nat), .bool (decide (zeroAt l a < n))]) ∧ w = w' := by
  have hlen := h.1
  subst hlen
  have HI := Lib.hid h
  clear h
  go_enter Try.func136, Try.ntmps136
  go_wp2
  go_step3
  go_wp2
  go_step3
  go_wp2
  go_loop [6] (fun i => ∃ k : Nat, k ≤ l.length ∧ i = .int .i64 k ∧ zeroAt l k = zeroAt l a) (fun i => l.length - (intOf i).toNat)
  case atStart => exact ⟨a, ha, rfl, rfl⟩
  case round =>
    obtain ⟨k, hk, rfl, hz⟩ := hrel
    have HZ := Lib.hid hz
    clear hz
    by_cases hlt : k < l.length
    · obtain ⟨b, off, rfl, hkl, hc⟩ := isb_at HI.out hlt
      by_cases h0 : l[k] = 0
      · have HE := Lib.hid (show zeroAt l a = k by rw [← HZ.out, zeroAt_hit hlt h0])
        rw [h0] at hc
        clear h0
        go_wp2
        try rw [Exit.noGoto_ret]
        go_ret2
        rw [HE.out]
        exact ⟨by simp [hlt], rfl⟩
      · have HE := Lib.hid ((zeroAt_miss hlt h0).trans HZ.out)
        have hb : (l[k].toNat == 0) = false := by
          rw [beq_eq_false_iff_ne]
          intro e
          exact h0 (UInt8.toNat_inj.1 e)
        clear h0
        go_wp2
        go_round
        case rel => exact ⟨k + 1, by omega, by go_num, HE.out⟩
        case measure => simp [intOf]; omega
    · obtain rfl : l.length = k := by omega
      have HE := Lib.hid (show zeroAt l a = l.length by rw [← HZ.out, zeroAt_end])
      go_wp2
      try rw [Exit.noGoto_ret]
      go_ret2
      rw [HE.out]
      exact ⟨by simp, rfl⟩
set_option maxHeartbeats 400000 in
theorem bequal_spec (A B : Option Addr) (n n' c d : Nat) (l m : List UInt8) (w : World) (ha : IsB w A n l) (hb : IsB w B n' m) :
    Calls Try.prog 137 #[.slice A n c, .slice B n' d] w fun e w' => e = .returned (.bool (eqB l m)) ∧ w = w' := by
  have h1 := run_str (c := c) ha
  have h2 := run_str (c := d) hb
  have H := Lib.hid (show (l == m) = eqB l m by unfold eqB; rw [Bool.eq_iff_iff]; simp)
  clear ha hb
  go_enter Try.func137, Try.ntmps137
  go_wp2
  go_ret
  exact ⟨ret_bool H.out, rfl⟩

theorem idx_ge (l : List UInt8) (c : UInt8) : -1 ≤ Lib.indexByte l c := by
  induction l with
  | nil => simp [Lib.indexByte]
  | cons b l ih =>
    unfold Lib.indexByte
    split
    · omega
    · split <;> omega
theorem idx_neg (l : List UInt8) (c : UInt8) : decide (Lib.indexByte l c < 0) = !(l.contains c) := by
  induction l with
  | nil => simp [Lib.indexByte]
  | cons b l ih =>
    have hg := idx_ge l c
    unfold Lib.indexByte
    by_cases hb : b = c
    · subst hb
      simp
    · have e1 : (b == c) = false := by simpa using hb
      have e2 : (c == b) = false := by simpa using fun e : c = b => hb e.symm
      rw [e1, List.contains_cons, e2, Bool.false_or, ← ih, if_neg (by simp)]
      split
      · rename_i h
        simp only [beq_iff_eq] at h
        rw [h]
      · rename_i h
        simp only [beq_iff_eq] at h
        rw [Bool.eq_iff_iff]
        simp only [decide_eq_true_eq]
        omega
set_option maxRecDepth 100000 in
set_option maxHeartbeats 400000 in
theorem bidx_spec (A : Option Addr) (n c : Nat) (l : List UInt8) (x : UInt8) (v : Int) (w : World) (h : IsB w A n l) (hn : 0 < n) (hv : v = (x.toNat : Int)) :
    Calls Try.prog 128 #[.slice A n c, .int .u8 v] w fun e w' => e = .returned (.int .i64 (Lib.indexByte l x)) ∧ w = w' := by
  subst hv
  have hlen := h.1
  subst hlen
  obtain ⟨b, off, rfl, _⟩ := isb_at h hn
  have hc : ∀ i, i < l.length → w.cell? ⟨b, off + i, none⟩ = some (.int .u8 ((l.map fun x : UInt8 => (x.toNat : Int)).getD i 0)) := by
    intro i hi
    obtain ⟨b', off', e, hk, hc⟩ := isb_at h hi
    injection e with e
    injection e with e1 e2
    subst e1 e2
    rw [hc]
    simp [List.getD_eq_getElem?_getD, hk]
  have hr := Lib.run_indexByteSlice (P := Try.prog) w b off l.length c (l.map fun x : UInt8 => (x.toNat : Int)) (by simp) hc (x.toNat : Int)
  have e1 : Lib.bytesOf (l.map fun x : UInt8 => (x.toNat : Int)) = l := by
    unfold Lib.bytesOf
    rw [List.map_map]
    conv => rhs; rw [← List.map_id l]
    exact List.map_congr_left (fun x _ => by simp)
  have e2 : ((x.toNat : Int)).toNat.toUInt8 = x := by simp
  rw [e1, e2] at hr
  clear hc e1 e2 h
  go_enter Try.func128, Try.ntmps128
  go_wp2
  rw [run_callFunc_extern Try.func135 (by kernel_rfl) (by kernel_rfl) (by kernel_rfl) (e := Extern.BytealgIndexByte.indexByte) (by kernel_rfl), hr]
  simp only [Result.andThen]
  rw [Oper.upon_value]
  go_wp2
  go_ret
  exact ⟨rfl, rfl⟩
end Go.Proofs.Ytaigofpipoimkaa
