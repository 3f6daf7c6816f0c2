/-
  Package le and its reference: what fits, and the storing of digits.
-/
import Derived.Test.YtdoagpophikgjaaLeB
import Derived.Test.YtdoagpophikgjaaZeros
namespace Go.Proofs.Ytdoagpophikgjaa
open Go.RowKit Go.Acc

def fitsU (w u : Nat) : Bool := decide (w = 8 ∨ u < 2 ^ (8 * w))
def fitsI (w : Nat) (n : Int) : Bool := decide (w = 8 ∨ (-(2 ^ (8 * w - 1)) ≤ n ∧ n < 2 ^ (8 * w - 1)))
theorem w_cases {y : Nat} (h : isW (y : Int) = true) : y = 1 ∨ y = 2 ∨ y = 4 ∨ y = 8 := by have := isW_iff.1 h; omega

/-- The lowest bytes of a number, least significant first. -/
def leBytes (n u : Nat) : List UInt8 := (List.range n).map fun i => UInt8.ofNat (u / 2 ^ (8 * i))
theorem leBytes_length (n u : Nat) : (leBytes n u).length = n := by simp [leBytes]
theorem leBytes_get (n u k : Nat) (hk : k < (leBytes n u).length) : (leBytes n u)[k] = UInt8.ofNat (u / 2 ^ (8 * k)) := by simp [leBytes]
theorem leBytes_succ (n u : Nat) : leBytes (n + 1) u = leBytes n u ++ [UInt8.ofNat (u / 2 ^ (8 * n))] := by simp [leBytes, List.range_succ]
theorem leVal_leBytes (n u : Nat) : leVal (leBytes n u) = u % 2 ^ (8 * n) := by
  induction n with
  | zero => simp [leBytes, leVal, Nat.mod_one]
  | succ n ih =>
    rw [leBytes_succ, leVal_snoc, ih, leBytes_length, UInt8.toNat_ofNat', show 8 * (n + 1) = 8 * n + 8 by omega, Nat.pow_add, Nat.mod_mul, Nat.mul_comm (2 ^ (8 * n))]

set_option maxHeartbeats 1000000 in
theorem fits_spec (y u : Nat) (w : World) (hy : isW (y : Int) = true) (hu : (u : Int) < 18446744073709551616) : Calls Try.prog 68 #[.int .i64 y, .int .u64 u] w fun e w' => e = .returned (.bool (fitsU y u)) ∧ w = w' := by
  have hu0 : (0 : Int) ≤ u := by omega
  rcases w_cases hy with rfl | rfl | rfl | rfl
  · by_cases h : u < 256
    · have H := Lib.hid (show fitsU 1 u = true from decide_eq_true (.inr h))
      have e : ((u : Int) / 256 == 0) = true := by rw [beq_iff_eq]; omega
      clear h hy
      go_enter Try.func68, Try.ntmps68
      go_wp2
      go_ret
      exact ⟨ret_bool H.out.symm, rfl⟩
    · have H := Lib.hid (show fitsU 1 u = false from decide_eq_false (by rintro (h' | h') <;> first | exact h h' | omega))
      have e : ((u : Int) / 256 == 0) = false := by rw [beq_eq_false_iff_ne]; omega
      clear h hy
      go_enter Try.func68, Try.ntmps68
      go_wp2
      go_ret
      exact ⟨ret_bool H.out.symm, rfl⟩
  · by_cases h : u < 65536
    · have H := Lib.hid (show fitsU 2 u = true from decide_eq_true (.inr h))
      have e : ((u : Int) / 65536 == 0) = true := by rw [beq_iff_eq]; omega
      clear h hy
      go_enter Try.func68, Try.ntmps68
      go_wp2
      go_ret
      exact ⟨ret_bool H.out.symm, rfl⟩
    · have H := Lib.hid (show fitsU 2 u = false from decide_eq_false (by rintro (h' | h') <;> first | exact h h' | omega))
      have e : ((u : Int) / 65536 == 0) = false := by rw [beq_eq_false_iff_ne]; omega
      clear h hy
      go_enter Try.func68, Try.ntmps68
      go_wp2
      go_ret
      exact ⟨ret_bool H.out.symm, rfl⟩
  · by_cases h : u < 4294967296
    · have H := Lib.hid (show fitsU 4 u = true from decide_eq_true (.inr h))
      have e : ((u : Int) / 4294967296 == 0) = true := by rw [beq_iff_eq]; omega
      clear h hy
      go_enter Try.func68, Try.ntmps68
      go_wp2
      go_ret
      exact ⟨ret_bool H.out.symm, rfl⟩
    · have H := Lib.hid (show fitsU 4 u = false from decide_eq_false (by rintro (h' | h') <;> first | exact h h' | omega))
      have e : ((u : Int) / 4294967296 == 0) = false := by rw [beq_eq_false_iff_ne]; omega
      clear h hy
      go_enter Try.func68, Try.ntmps68
      go_wp2
      go_ret
      exact ⟨ret_bool H.out.symm, rfl⟩
  · go_enter Try.func68, Try.ntmps68
    go_wp2
    go_ret
    exact ⟨rfl, rfl⟩

/-- A stretch of an array is replaced. -/
def Seg (cur : Array Value) (off : Nat) (vs : List Value) (k : Nat) (cur' : Array Value) : Prop :=
  cur'.size = cur.size ∧ ∀ j, cur'[j]? = if off ≤ j ∧ j < off + k then vs[j - off]? else cur[j]?
theorem Seg.zero (cur : Array Value) (off : Nat) (vs : List Value) : Seg cur off vs 0 cur := ⟨rfl, fun j => by rw [if_neg (by omega)]⟩
theorem Seg.step {cur cur' : Array Value} {off k : Nat} {vs : List Value} (h : Seg cur off vs k cur') {v : Value} (hv : vs[k]? = some v) (hk : off + k < cur.size) : Seg cur off vs (k + 1) (cur'.setIfInBounds (off + k) v) := by
  refine ⟨by simpa using h.1, fun j => ?_⟩
  rw [Array.getElem?_setIfInBounds, h.2]
  by_cases e : off + k = j
  · subst e
    rw [if_pos rfl, if_pos (by rw [h.1]; exact hk), if_pos (by omega), Nat.add_sub_cancel_left, hv]
  · rw [if_neg e]
    by_cases h1 : off ≤ j ∧ j < off + k
    · rw [if_pos h1, if_pos (by omega)]
    · rw [if_neg h1, if_neg (by omega)]
theorem Seg.take {cur cur' : Array Value} {off n m : Nat} {vs : List Value} (h : Seg cur off vs n cur') (hv : vs.length = n) (hm : off + n ≤ m) (hs : m ≤ cur.size) : cur'.toList.take m = (cur.toList.take m).take off ++ vs ++ (cur.toList.take m).drop (off + n) := by
  apply List.ext_getElem?
  intro j
  rw [List.getElem?_take]
  have hj := h.2 j
  rw [← Array.getElem?_toList] at hj
  split
  · rename_i hjm
    rw [hj]
    by_cases h1 : j < off
    · rw [if_neg (by omega), List.append_assoc, List.getElem?_append_left (by simp; omega), List.getElem?_take, if_pos h1, List.getElem?_take, if_pos hjm, Array.getElem?_toList]
    · by_cases h2 : j < off + n
      · rw [if_pos (by omega), List.append_assoc, List.getElem?_append_right (by simp; omega), List.getElem?_append_left (by simp; omega)]
        congr 1
        simp; omega
      · rw [if_neg (by omega), List.getElem?_append_right (by simp; omega), List.getElem?_drop, List.getElem?_take, ← Array.getElem?_toList]
        have e : off + n + (j - ((cur.toList.take m).take off ++ vs).length) = j := by simp; omega
        rw [e, if_pos hjm]
  · rename_i hjm
    rw [List.getElem?_eq_none]
    simp; omega

theorem digit_byte (u k : Nat) : (u : Int) / 2 ^ (8 * k) % 256 = ((UInt8.ofNat (u / 2 ^ (8 * k))).toNat : Int) := by
  have e : (u : Int) / 2 ^ (8 * k) = ((u / 2 ^ (8 * k) : Nat) : Int) := by simp
  rw [e, UInt8.toNat_ofNat']
  omega
set_option maxHeartbeats 1000000 in
theorem digits_spec (g off n c u : Nat) (cur : Array Value) (w : World) (hb : Blk w g 5 cur) (ho : off + n ≤ cur.size) (hn : n ≤ 8) (hu : (u : Int) < 18446744073709551616) :
    Calls Try.prog 69 #[.slice (some ⟨g, off, none⟩) n c, .int .u64 u] w fun e w' => e = .returned (.tuple #[]) ∧ ∃ cur', Blk w' g 5 cur' ∧ Seg cur off ((leBytes n u).flatMap bc) n cur' ∧ Fr (fun k => k = g) w w' := by
  have HB := Lib.hid hb
  have hu0 : (0 : Int) ≤ u := by omega
  clear hb
  go_enter Try.func69, Try.ntmps69
  go_wp2
  go_loopw [7] (fun i wr => ∃ (k : Nat) (cur' : Array Value), k ≤ n ∧ i = .int .i64 k ∧ Blk wr g 5 cur' ∧ Seg cur off ((leBytes n u).flatMap bc) k cur' ∧ Fr (fun k => k = g) w wr) (fun i _ => n - (intOf i).toNat)
  case atStart => exact ⟨0, cur, by omega, rfl, HB.out, Seg.zero _ _ _, Fr.refl _ _⟩
  case round =>
    obtain ⟨k, cur', hk, rfl, hB, hS, hf⟩ := hrel
    by_cases hlt : k < n
    · have hcell : ∃ v, wr.cell? ⟨g, off + k, none⟩ = some v := ⟨_, (hB.cell (off + k)).trans (Array.getElem?_eq_getElem (by rw [hS.1]; omega))⟩
      obtain ⟨v, hv⟩ := hcell
      have f0 := hB.frozen (off + k)
      have e1 := digit_byte u k
      have hb1 : ((leBytes n u).flatMap bc)[k]? = some (.int .u8 ((UInt8.ofNat (u / 2 ^ (8 * k))).toNat : Int)) := by
        have := fm_at bc_len (leBytes n u) k 0 (by rw [leBytes_length]; exact hlt) (by omega)
        rw [Nat.mul_one, Nat.add_zero, leBytes_get] at this
        exact this
      have E1 := Lib.hid e1
      have HB := Lib.hid hB
      have HS := Lib.hid (hS.step hb1 (by omega))
      have HF := Lib.hid hf
      clear hB hS hf e1 hb1
      go_wp2
      rw [E1.out]
      exact ⟨⟨k + 1, _, by omega, by go_num, HB.out.set_ _ _, HS.out, Fr.setCell (S := fun k => k = g) HF.out (fun _ => rfl) _⟩, by simp [intOf]; omega⟩
    · obtain rfl : k = n := by omega
      have HB := Lib.hid hB
      have HS := Lib.hid hS
      have HF := Lib.hid hf
      clear hB hS hf
      go_wp2
      go_end0
      exact ⟨rfl, cur', HB.out, HS.out, HF.out⟩

theorem fitsI_iff {y : Nat} {n : Int} : fitsI y n = true ↔ (y = 8 ∨ (-(2 ^ (8 * y - 1)) ≤ n ∧ n < 2 ^ (8 * y - 1))) := by simp [fitsI]
end Go.Proofs.Ytdoagpophikgjaa
