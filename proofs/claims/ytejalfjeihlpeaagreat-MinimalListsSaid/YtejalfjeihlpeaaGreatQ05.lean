/-
  Package le and its reference: what fits, and the storing of digits.
  Package le and its reference: copies of bytes, comparison of bytes, the digits of the reference.
-/
import Derived.Test.YtejalfjeihlpeaaGreatQ03
import Derived.Test.YtejalfjeihlpeaaGreatQ04
namespace Go.Proofs.YtejalfjeihlpeaaGreat
open Go.RowKit Go.Acc

def fitsU (w u : Nat) : Bool := decide (w = 8 ∨ u < 2 ^ (8 * w))
def fitsI (w : Nat) (n : Int) : Bool := decide (w = 8 ∨ (-(2 ^ (8 * w - 1)) ≤ n ∧ n < 2 ^ (8 * w - 1)))
theorem w_cases {y : Nat} (h : isW (y : Int) = true) : y = 1 ∨ y = 2 ∨ y = 4 ∨ y = 8 := by have := isW_iff.1 h; omega

/-- The lowest bytes of a number, least significant first. -/
def leBytes (n u : Nat) : List UInt8 := (List.range n).map fun i => UInt8.ofNat (u / 2 ^ (8 * i))
theorem leBytes_length (n u : Nat) : (leBytes n u).length = n := by simp [leBytes]
theorem leBytes_get (n u k : Nat) (hk : k < (leBytes n u).length) : (leBytes n u)[k] = UInt8.ofNat (u / 2 ^ (8 * k)) := by simp [leBytes]
theorem leBytes_succ (n u : Nat) : leBytes (n + 1) u = leBytes n u ++ [UInt8.ofNat (u / 2 ^ (8 * n))] := by simp [leBytes, List.range_succ]
theorem leVal_leBytes (n u : Nat) : leVal (leBytes n u) = u % 2 ^ (8 * n) := by
  induction n with
  | zero => simp [leBytes, leVal, Nat.mod_one]
  | succ n ih =>
    rw [leBytes_succ, leVal_snoc, ih, leBytes_length, UInt8.toNat_ofNat', show 8 * (n + 1) = 8 * n + 8 by omega, Nat.pow_add, Nat.mod_mul, Nat.mul_comm (2 ^ (8 * n))]

set_option maxHeartbeats 1000000 in
theorem fits_spec (y u : Nat) (w : World) (hy : isW (y : Int) = true) (hu : (u : Int) < 18446744073709551616) : Calls Tryz.prog 44 #[.int .i64 y, .int .u64 u] w fun e w' => e = .returned (.bool (fitsU y u)) ∧ w = w' := by
  have hu0 : (0 : Int) ≤ u := by omega
  rcases w_cases hy with rfl | rfl | rfl | rfl
  · by_cases h : u < 256
    · have H := Lib.hid (show fitsU 1 u = true from decide_eq_true (.inr h))
      have e : ((u : Int) / 256 == 0) = true := by rw [beq_iff_eq]; omega
      clear h hy
      go_enter Tryz.func44, Tryz.ntmps44
      go_wp2
      go_ret
      exact ⟨ret_bool H.out.symm, rfl⟩
    · have H := Lib.hid (show fitsU 1 u = false from decide_eq_false (by rintro (h' | h') <;> first | exact h h' | omega))
      have e : ((u : Int) / 256 == 0) = false := by rw [beq_eq_false_iff_ne]; omega
      clear h hy
      go_enter Tryz.func44, Tryz.ntmps44
      go_wp2
      go_ret
      exact ⟨ret_bool H.out.symm, rfl⟩
  · by_cases h : u < 65536
    · have H := Lib.hid (show fitsU 2 u = true from decide_eq_true (.inr h))
      have e : ((u : Int) / 65536 == 0) = true := by rw [beq_iff_eq]; omega
      clear h hy
      go_enter Tryz.func44, Tryz.ntmps44
      go_wp2
      go_ret
      exact ⟨ret_bool H.out.symm, rfl⟩
    · have H := Lib.hid (show fitsU 2 u = false from decide_eq_false (by rintro (h' | h') <;> first | exact h h' | omega))
      have e : ((u : Int) / 65536 == 0) = false := by rw [beq_eq_false_iff_ne]; omega
      clear h hy
      go_enter Tryz.func44, Tryz.ntmps44
      go_wp2
      go_ret
      exact ⟨ret_bool H.out.symm, rfl⟩
  · by_cases h : u < 4294967296
    · have H := Lib.hid (show fitsU 4 u = true from decide_eq_true (.inr h))
      have e : ((u : Int) / 4294967296 == 0) = true := by rw [beq_iff_eq]; omega
      clear h hy
      go_enter Tryz.func44, Tryz.ntmps44
      go_wp2
      go_ret
      exact ⟨ret_bool H.out.symm, rfl⟩
    · have H := Lib.hid (show fitsU 4 u = false from decide_eq_false (by rintro (h' | h') <;> first | exact h h' | omega))
      have e : ((u : Int) / 4294967296 == 0) = false := by rw [beq_eq_false_iff_ne]; omega
      clear h hy
      go_enter Tryz.func44, Tryz.ntmps44
      go_wp2
      go_ret
      exact ⟨ret_bool H.out.symm, rfl⟩
  · go_enter Tryz.func44, Tryz.ntmps44
    go_wp2
    go_ret
    exact ⟨rfl, rfl⟩

/-- A stretch of an array is replaced. -/
def Seg (cur : Array Value) (off : Nat) (vs : List Value) (k : Nat) (cur' : Array Value) : Prop :=
  cur'.size = cur.size ∧ ∀ j, cur'[j]? = if off ≤ j ∧ j < off + k then vs[j - off]? else cur[j]?
theorem Seg.zero (cur : Array Value) (off : Nat) (vs : List Value) : Seg cur off vs 0 cur := ⟨rfl, fun j => by rw [if_neg (by omega)]⟩
theorem Seg.step {cur cur' : Array Value} {off k : Nat} {vs : List Value} (h : Seg cur off vs k cur') {v : Value} (hv : vs[k]? = some v) (hk : off + k < cur.size) : Seg cur off vs (k + 1) (cur'.setIfInBounds (off + k) v) := by
  refine ⟨by simpa using h.1, fun j => ?_⟩
  rw [Array.getElem?_setIfInBounds, h.2]
  by_cases e : off + k = j
  · subst e
    rw [if_pos rfl, if_pos (by rw [h.1]; exact hk), if_pos (by omega), Nat.add_sub_cancel_left, hv]
  · rw [if_neg e]
    by_cases h1 : off ≤ j ∧ j < off + k
    · rw [if_pos h1, if_pos (by omega)]
    · rw [if_neg h1, if_neg (by omega)]
theorem Seg.take {cur cur' : Array Value} {off n m : Nat} {vs : List Value} (h : Seg cur off vs n cur') (hv : vs.length = n) (hm : off + n ≤ m) (hs : m ≤ cur.size) : cur'.toList.take m = (cur.toList.take m).take off ++ vs ++ (cur.toList.take m).drop (off + n) := by
  apply List.ext_getElem?
  intro j
  rw [List.getElem?_take]
  have hj := h.2 j
  rw [← Array.getElem?_toList] at hj
  split
  · rename_i hjm
    rw [hj]
    by_cases h1 : j < off
    · rw [if_neg (by omega), List.append_assoc, List.getElem?_append_left (by simp; omega), List.getElem?_take, if_pos h1, List.getElem?_take, if_pos hjm, Array.getElem?_toList]
    · by_cases h2 : j < off + n
      · rw [if_pos (by omega), List.append_assoc, List.getElem?_append_right (by simp; omega), List.getElem?_append_left (by simp; omega)]
        congr 1
        simp; omega
      · rw [if_neg (by omega), List.getElem?_append_right (by simp; omega), List.getElem?_drop, List.getElem?_take, ← Array.getElem?_toList]
        have e : off + n + (j - ((cur.toList.take m).take off ++ vs).length) = j := by simp; omega
        rw [e, if_pos hjm]
  · rename_i hjm
    rw [List.getElem?_eq_none]
    simp; omega

theorem digit_byte (u k : Nat) : (u : Int) / 2 ^ (8 * k) % 256 = ((UInt8.ofNat (u / 2 ^ (8 * k))).toNat : Int) := by
  have e : (u : Int) / 2 ^ (8 * k) = ((u / 2 ^ (8 * k) : Nat) : Int) := by simp
  rw [e, UInt8.toNat_ofNat']
  omega
set_option maxHeartbeats 1000000 in
theorem digits_spec (g off n c u : Nat) (cur : Array Value) (w : World) (hb : Blk w g 5 cur) (ho : off + n ≤ cur.size) (hn : n ≤ 8) (hu : (u : Int) < 18446744073709551616) :
    Calls Tryz.prog 83 #[.slice (some ⟨g, off, none⟩) n c, .int .u64 u] w fun e w' => e = .returned (.tuple #[]) ∧ ∃ cur', Blk w' g 5 cur' ∧ Seg cur off ((leBytes n u).flatMap bc) n cur' ∧ Fr (fun k => k = g) w w' := by
  have HB := Lib.hid hb
  have hu0 : (0 : Int) ≤ u := by omega
  clear hb
  go_enter Tryz.func83, Tryz.ntmps83
  go_wp2
  go_loopw [7] (fun i wr => ∃ (k : Nat) (cur' : Array Value), k ≤ n ∧ i = .int .i64 k ∧ Blk wr g 5 cur' ∧ Seg cur off ((leBytes n u).flatMap bc) k cur' ∧ Fr (fun k => k = g) w wr) (fun i _ => n - (intOf i).toNat)
  case atStart => exact ⟨0, cur, by omega, rfl, HB.out, Seg.zero _ _ _, Fr.refl _ _⟩
  case round =>
    obtain ⟨k, cur', hk, rfl, hB, hS, hf⟩ := hrel
    by_cases hlt : k < n
    · have hcell : ∃ v, wr.cell? ⟨g, off + k, none⟩ = some v := ⟨_, (hB.cell (off + k)).trans (Array.getElem?_eq_getElem (by rw [hS.1]; omega))⟩
      obtain ⟨v, hv⟩ := hcell
      have f0 := hB.frozen (off + k)
      have e1 := digit_byte u k
      have hb1 : ((leBytes n u).flatMap bc)[k]? = some (.int .u8 ((UInt8.ofNat (u / 2 ^ (8 * k))).toNat : Int)) := by
        have := fm_at bc_len (leBytes n u) k 0 (by rw [leBytes_length]; exact hlt) (by omega)
        rw [Nat.mul_one, Nat.add_zero, leBytes_get] at this
        exact this
      have E1 := Lib.hid e1
      have HB := Lib.hid hB
      have HS := Lib.hid (hS.step hb1 (by omega))
      have HF := Lib.hid hf
      clear hB hS hf e1 hb1
      go_wp2
      rw [E1.out]
      exact ⟨⟨k + 1, _, by omega, by go_num, HB.out.set_ _ _, HS.out, Fr.setCell (S := fun k => k = g) HF.out (fun _ => rfl) _⟩, by simp [intOf]; omega⟩
    · obtain rfl : k = n := by omega
      have HB := Lib.hid hB
      have HS := Lib.hid hS
      have HF := Lib.hid hf
      clear hB hS hf
      go_wp2
      go_end0
      exact ⟨rfl, cur', HB.out, HS.out, HF.out⟩

set_option maxRecDepth 100000 in
set_option maxHeartbeats 1000000 in
theorem rfits_spec (y u : Nat) (w : World) (hy : isW (y : Int) = true) (hu : (u : Int) < 18446744073709551616) : Calls Tryz.prog 76 #[.int .i64 y, .int .u64 u] w fun e w' => e = .returned (.bool (fitsU y u)) ∧ w = w' := by
  have hu0 : (0 : Int) ≤ u := by omega
  have HU := Lib.hid hu
  clear hu
  rcases w_cases hy with rfl | rfl | rfl | rfl
  · by_cases h : u < 256
    · have H := Lib.hid (show fitsU 1 u = true from decide_eq_true (.inr h))
      have e : decide ((u : Int) < 256) = true := by simp; omega
      clear h hy
      go_enter Tryz.func76, Tryz.ntmps76
      go_wp2
      go_ret
      exact ⟨ret_bool H.out.symm, rfl⟩
    · have H := Lib.hid (show fitsU 1 u = false from decide_eq_false (by rintro (h' | h') <;> first | exact h h' | omega))
      have e : decide ((u : Int) < 256) = false := by simp; omega
      clear h hy
      go_enter Tryz.func76, Tryz.ntmps76
      go_wp2
      go_ret
      exact ⟨ret_bool H.out.symm, rfl⟩
  · by_cases h : u < 65536
    · have H := Lib.hid (show fitsU 2 u = true from decide_eq_true (.inr h))
      have e : decide ((u : Int) < 65536) = true := by simp; omega
      clear h hy
      go_enter Tryz.func76, Tryz.ntmps76
      go_wp2
      go_ret
      exact ⟨ret_bool H.out.symm, rfl⟩
    · have H := Lib.hid (show fitsU 2 u = false from decide_eq_false (by rintro (h' | h') <;> first | exact h h' | omega))
      have e : decide ((u : Int) < 65536) = false := by simp; omega
      clear h hy
      go_enter Tryz.func76, Tryz.ntmps76
      go_wp2
      go_ret
      exact ⟨ret_bool H.out.symm, rfl⟩
  · by_cases h : u < 4294967296
    · have H := Lib.hid (show fitsU 4 u = true from decide_eq_true (.inr h))
      have e : decide ((u : Int) < 4294967296) = true := by simp; omega
      clear h hy
      go_enter Tryz.func76, Tryz.ntmps76
      go_wp2
      go_ret
      exact ⟨ret_bool H.out.symm, rfl⟩
    · have H := Lib.hid (show fitsU 4 u = false from decide_eq_false (by rintro (h' | h') <;> first | exact h h' | omega))
      have e : decide ((u : Int) < 4294967296) = false := by simp; omega
      clear h hy
      go_enter Tryz.func76, Tryz.ntmps76
      go_wp2
      go_ret
      exact ⟨ret_bool H.out.symm, rfl⟩
  · go_enter Tryz.func76, Tryz.ntmps76
    go_wp2
    go_ret
    exact ⟨rfl, rfl⟩

theorem fitsI_iff {y : Nat} {n : Int} : fitsI y n = true ↔ (y = 8 ∨ (-(2 ^ (8 * y - 1)) ≤ n ∧ n < 2 ^ (8 * y - 1))) := by simp [fitsI]
set_option maxRecDepth 100000 in
set_option maxHeartbeats 1000000 in
theorem fitsi_spec (y : Nat) (n : Int) (w : World) (hy : isW (y : Int) = true) (h1 : -9223372036854775808 ≤ n) (h2 : n ≤ 9223372036854775807) : Calls Tryz.prog 48 #[.int .i64 y, .int .i64 n] w fun e w' => e = .returned (.bool (fitsI y n)) ∧ w = w' := by
  rcases w_cases hy with rfl | rfl | rfl | rfl
  · by_cases h : -128 ≤ n ∧ n < 128
    · have H := Lib.hid (show fitsI 1 n = true from fitsI_iff.2 (.inr (by simpa using h)))
      by_cases h0 : 0 ≤ n
      · have e0 : n / 128 = 0 := by omega
        clear h hy
        go_enter Tryz.func48, Tryz.ntmps48
        go_wp2
        go_ret
        exact ⟨ret_bool H.out.symm, rfl⟩
      · have e0 : n / 128 = -1 := by omega
        clear h hy
        go_enter Tryz.func48, Tryz.ntmps48
        go_wp2
        go_ret
        exact ⟨ret_bool H.out.symm, rfl⟩
    · have H := Lib.hid (show fitsI 1 n = false from by rw [← Bool.not_eq_true]; intro hh; rcases fitsI_iff.1 hh with h' | h' <;> first | omega | exact h (by simpa using h'))
      have e0 : (n / 128 == 0) = false := by rw [beq_eq_false_iff_ne]; omega
      have e1 : (n / 128 == -1) = false := by rw [beq_eq_false_iff_ne]; omega
      clear h hy
      go_enter Tryz.func48, Tryz.ntmps48
      go_wp2
      go_ret
      exact ⟨ret_bool H.out.symm, rfl⟩
  · by_cases h : -32768 ≤ n ∧ n < 32768
    · have H := Lib.hid (show fitsI 2 n = true from fitsI_iff.2 (.inr (by simpa using h)))
      by_cases h0 : 0 ≤ n
      · have e0 : n / 32768 = 0 := by omega
        clear h hy
        go_enter Tryz.func48, Tryz.ntmps48
        go_wp2
        go_ret
        exact ⟨ret_bool H.out.symm, rfl⟩
      · have e0 : n / 32768 = -1 := by omega
        clear h hy
        go_enter Tryz.func48, Tryz.ntmps48
        go_wp2
        go_ret
        exact ⟨ret_bool H.out.symm, rfl⟩
    · have H := Lib.hid (show fitsI 2 n = false from by rw [← Bool.not_eq_true]; intro hh; rcases fitsI_iff.1 hh with h' | h' <;> first | omega | exact h (by simpa using h'))
      have e0 : (n / 32768 == 0) = false := by rw [beq_eq_false_iff_ne]; omega
      have e1 : (n / 32768 == -1) = false := by rw [beq_eq_false_iff_ne]; omega
      clear h hy
      go_enter Tryz.func48, Tryz.ntmps48
      go_wp2
      go_ret
      exact ⟨ret_bool H.out.symm, rfl⟩
  · by_cases h : -2147483648 ≤ n ∧ n < 2147483648
    · have H := Lib.hid (show fitsI 4 n = true from fitsI_iff.2 (.inr (by simpa using h)))
      by_cases h0 : 0 ≤ n
      · have e0 : n / 2147483648 = 0 := by omega
        clear h hy
        go_enter Tryz.func48, Tryz.ntmps48
        go_wp2
        go_ret
        exact ⟨ret_bool H.out.symm, rfl⟩
      · have e0 : n / 2147483648 = -1 := by omega
        clear h hy
        go_enter Tryz.func48, Tryz.ntmps48
        go_wp2
        go_ret
        exact ⟨ret_bool H.out.symm, rfl⟩
    · have H := Lib.hid (show fitsI 4 n = false from by rw [← Bool.not_eq_true]; intro hh; rcases fitsI_iff.1 hh with h' | h' <;> first | omega | exact h (by simpa using h'))
      have e0 : (n / 2147483648 == 0) = false := by rw [beq_eq_false_iff_ne]; omega
      have e1 : (n / 2147483648 == -1) = false := by rw [beq_eq_false_iff_ne]; omega
      clear h hy
      go_enter Tryz.func48, Tryz.ntmps48
      go_wp2
      go_ret
      exact ⟨ret_bool H.out.symm, rfl⟩
  · have H := Lib.hid (show fitsI 8 n = true from fitsI_iff.2 (.inl rfl))
    by_cases h0 : 0 ≤ n
    · have e0 : n / 9223372036854775808 = 0 := by omega
      clear hy
      go_enter Tryz.func48, Tryz.ntmps48
      go_wp2
      go_ret
      exact ⟨ret_bool H.out.symm, rfl⟩
    · have e0 : n / 9223372036854775808 = -1 := by omega
      clear hy
      go_enter Tryz.func48, Tryz.ntmps48
      go_wp2
      go_ret
      exact ⟨ret_bool H.out.symm, rfl⟩

set_option maxRecDepth 100000 in
set_option maxHeartbeats 1000000 in
theorem rfitsi_spec (y : Nat) (n : Int) (w : World) (hy : isW (y : Int) = true) : Calls Tryz.prog 112 #[.int .i64 y, .int .i64 n] w fun e w' => e = .returned (.bool (fitsI y n)) ∧ w = w' := by
  rcases w_cases hy with rfl | rfl | rfl | rfl
  · by_cases h : -128 ≤ n
    · by_cases h' : n < 128
      · have H := Lib.hid (show fitsI 1 n = true from fitsI_iff.2 (.inr (by simpa using ⟨h, h'⟩)))
        have e0 : decide (-128 ≤ n) = true := decide_eq_true h
        have e1 : decide (n < 128) = true := decide_eq_true h'
        clear h h' hy
        go_enter Tryz.func112, Tryz.ntmps112
        go_wp2
        go_ret
        exact ⟨ret_bool H.out.symm, rfl⟩
      · have H := Lib.hid (show fitsI 1 n = false from by rw [← Bool.not_eq_true]; intro hh; rcases fitsI_iff.1 hh with h'' | h'' <;> first | omega | exact h' (by simpa using h''.2))
        have e0 : decide (-128 ≤ n) = true := decide_eq_true h
        have e1 : decide (n < 128) = false := decide_eq_false h'
        clear h h' hy
        go_enter Tryz.func112, Tryz.ntmps112
        go_wp2
        go_ret
        exact ⟨ret_bool H.out.symm, rfl⟩
    · have H := Lib.hid (show fitsI 1 n = false from by rw [← Bool.not_eq_true]; intro hh; rcases fitsI_iff.1 hh with h'' | h'' <;> first | omega | exact h (by simpa using h''.1))
      have e0 : decide (-128 ≤ n) = false := decide_eq_false h
      clear h hy
      go_enter Tryz.func112, Tryz.ntmps112
      go_wp2
      go_ret
      exact ⟨ret_bool H.out.symm, rfl⟩
  · by_cases h : -32768 ≤ n
    · by_cases h' : n < 32768
      · have H := Lib.hid (show fitsI 2 n = true from fitsI_iff.2 (.inr (by simpa using ⟨h, h'⟩)))
        have e0 : decide (-32768 ≤ n) = true := decide_eq_true h
        have e1 : decide (n < 32768) = true := decide_eq_true h'
        clear h h' hy
        go_enter Tryz.func112, Tryz.ntmps112
        go_wp2
        go_ret
        exact ⟨ret_bool H.out.symm, rfl⟩
      · have H := Lib.hid (show fitsI 2 n = false from by rw [← Bool.not_eq_true]; intro hh; rcases fitsI_iff.1 hh with h'' | h'' <;> first | omega | exact h' (by simpa using h''.2))
        have e0 : decide (-32768 ≤ n) = true := decide_eq_true h
        have e1 : decide (n < 32768) = false := decide_eq_false h'
        clear h h' hy
        go_enter Tryz.func112, Tryz.ntmps112
        go_wp2
        go_ret
        exact ⟨ret_bool H.out.symm, rfl⟩
    · have H := Lib.hid (show fitsI 2 n = false from by rw [← Bool.not_eq_true]; intro hh; rcases fitsI_iff.1 hh with h'' | h'' <;> first | omega | exact h (by simpa using h''.1))
      have e0 : decide (-32768 ≤ n) = false := decide_eq_false h
      clear h hy
      go_enter Tryz.func112, Tryz.ntmps112
      go_wp2
      go_ret
      exact ⟨ret_bool H.out.symm, rfl⟩
  · by_cases h : -2147483648 ≤ n
    · by_cases h' : n < 2147483648
      · have H := Lib.hid (show fitsI 4 n = true from fitsI_iff.2 (.inr (by simpa using ⟨h, h'⟩)))
        have e0 : decide (-2147483648 ≤ n) = true := decide_eq_true h
        have e1 : decide (n < 2147483648) = true := decide_eq_true h'
        clear h h' hy
        go_enter Tryz.func112, Tryz.ntmps112
        go_wp2
        go_ret
        exact ⟨ret_bool H.out.symm, rfl⟩
      · have H := Lib.hid (show fitsI 4 n = false from by rw [← Bool.not_eq_true]; intro hh; rcases fitsI_iff.1 hh with h'' | h'' <;> first | omega | exact h' (by simpa using h''.2))
        have e0 : decide (-2147483648 ≤ n) = true := decide_eq_true h
        have e1 : decide (n < 2147483648) = false := decide_eq_false h'
        clear h h' hy
        go_enter Tryz.func112, Tryz.ntmps112
        go_wp2
        go_ret
        exact ⟨ret_bool H.out.symm, rfl⟩
    · have H := Lib.hid (show fitsI 4 n = false from by rw [← Bool.not_eq_true]; intro hh; rcases fitsI_iff.1 hh with h'' | h'' <;> first | omega | exact h (by simpa using h''.1))
      have e0 : decide (-2147483648 ≤ n) = false := decide_eq_false h
      clear h hy
      go_enter Tryz.func112, Tryz.ntmps112
      go_wp2
      go_ret
      exact ⟨ret_bool H.out.symm, rfl⟩
  · have H := Lib.hid (show fitsI 8 n = true from fitsI_iff.2 (.inl rfl))
    clear hy
    go_enter Tryz.func112, Tryz.ntmps112
    go_wp2
    go_ret
    exact ⟨ret_bool H.out.symm, rfl⟩

end Go.Proofs.YtejalfjeihlpeaaGreat

namespace Go.Proofs.YtejalfjeihlpeaaGreat
open Go.RowKit Go.Acc

theorem info_b : (Tryz.prog.info? 5).map (fun i => (i.zero, i.size, i.bytes)) = some (some (.int .u8 0), 1, 1) := by kernel_rfl

def CopiedB (w : World) (m : List UInt8) (e : Ending) (w' : World) : Prop :=
  ∃ A n c, e = .returned (.slice A n c) ∧ OwnB w' w.heap.size A n c m ∧ Below w.heap.size w w'
theorem copiedb_post {w w1 w' : World} {A : Option Addr} {n c : Nat} {l m : List UInt8} (h : OwnB w' w.heap.size A n c l) (hl : l = m) (h1 : Below w.heap.size w w1) {S : Nat → Prop} (hg : Fr S w1 w') (hS : ∀ k, k < w.heap.size → ¬ S k) : CopiedB w m (.returned (.slice A n c)) w' := by
  subst hl
  exact ⟨A, n, c, rfl, h, h1.trans (hg.belowB hS h1.size)⟩
set_option maxHeartbeats 400000 in
theorem copyb_spec (A : Option Addr) (n c : Nat) (l : List UInt8) (w : World) (h : IsB w A n l) (hl : n ≤ 1099511627776) :
    Calls Tryz.prog 24 #[.slice A n c] w (CopiedB w l) := by
  have HR := Lib.hid h
  clear h
  go_enter Tryz.func24, Tryz.ntmps24
  go_wp2_with (at_builtin; refine wpl_app _ rfl (.tmp 4) (.tmp 5) _ rfl 5 _ 1 1 Tryz.underlying22 info_b rfl (by omega) bc_len bc_one _ _ _ _ _ rfl (Own.nil w w.heap.size) _ _ _ _ rfl HR.out (by omega) (Nat.le_refl _) ?_; intro A1 c1 w1 hown1 hfr1 hat1)
  go_ret
  exact copiedb_post (by simpa using hown1) rfl (Below.refl _ _) hfr1 (by rintro k hk ⟨ad, h, _⟩; cases h)
set_option maxHeartbeats 400000 in
theorem cloneb_spec (A : Option Addr) (n c : Nat) (l : List UInt8) (w : World) (h : IsB w A n l) (hl : n ≤ 1099511627776) :
    Calls Tryz.prog 82 #[.slice A n c] w (CopiedB w l) := by
  have hnil := fun (w : World) (A : Option Addr) (n c : Nat) => Lib.run_eql_slice_nil (P := Tryz.prog) w 22 5 A n c 0 0 Tryz.underlying22
  rcases A with _ | a
  · obtain ⟨rfl, rfl⟩ := h.none_ bc_len (by omega)
    clear h hl
    go_enter Tryz.func82, Tryz.ntmps82
    go_wp2_with fail
    go_ret
    exact ⟨none, 0, 0, rfl, Own.nil _ _, Below.refl _ _⟩
  · have hr : IsB (w.alloc (.cells #[] 5)) (some a) n l := h.alloc _
    have ho : OwnB (w.alloc (.cells #[] 5)) w.heap.size (some ⟨w.heap.size, 0, none⟩) 0 0 [] := ⟨rfl, World.ownsRow_lit w #[] 0 (Nat.le_refl _) (Nat.zero_le _) rfl⟩
    have HR := Lib.hid hr
    clear h hr
    go_enter Tryz.func82, Tryz.ntmps82
    go_wp2_with (at_builtin; refine wpl_app _ rfl (.tmp 5) (.tmp 6) _ rfl 5 _ 1 1 Tryz.underlying22 info_b rfl (by omega) bc_len bc_one _ _ _ _ _ rfl ho _ _ _ _ rfl HR.out (by omega) (by simp) ?_; intro A1 c1 w1 hown1 hfr1 hat1)
    go_ret
    exact copiedb_post (by simpa using hown1) rfl ((Below.refl _ _).alloc (Nat.le_refl _) _) hfr1 (by rintro k hk ⟨ad, h, h'⟩; injection h with h; subst h; simp at h'; omega)

/-- The bytes of a slice as a string. -/
theorem run_str {w : World} {A : Option Addr} {n c : Nat} {l : List UInt8} (h : IsB w A n l) : (convert 22 9 (.slice A n c)).run Tryz.prog w = .ok (.string ⟨l.toArray⟩) w := by
  rcases Nat.eq_zero_or_pos n with h0 | h0
  · subst h0
    obtain rfl : l = [] := List.eq_nil_of_length_eq_zero h.1
    rw [run_convert_bytes_string w 22 9 5 A 0 c Tryz.underlying22 Tryz.underlying5 Tryz.underlying9]
    cases A with
    | none => simp [Conv.bytesToString]; rfl
    | some a =>
      have := run_bytesToString (P := Tryz.prog) w a 0 c [] (by simp [loadCells, loadCellsFrom])
      rw [this]; rfl
  · obtain ⟨b, off, rfl, _⟩ := h.some_ bc_len (by omega) h0
    have := run_convert_bytes_arg (P := Tryz.prog) w 22 5 Tryz.underlying22 Tryz.underlying5 b off n c (l.map fun x => (x.toNat : Int)) (by simp [h.1]) (fun i hi => by
      obtain ⟨b', off', e, hk, hc⟩ := isb_at h hi
      injection e with e; injection e with e1 e2; subst e1 e2
      rw [hc]
      simp [List.getD, List.getElem?_eq_getElem hk]) 9 Tryz.underlying9
    have e0 : ∀ m : List UInt8, (m.map fun x : UInt8 => (x.toNat : Int)).map (fun n => UInt8.ofNat n.toNat) = m := by
      intro m
      induction m with
      | nil => rfl
      | cons x m ih => rw [List.map_cons, List.map_cons, ih, Int.toNat_natCast, UInt8.ofNat_toNat]
    have e : strOfNums (l.map fun x : UInt8 => (x.toNat : Int)) = ⟨l.toArray⟩ := by
      unfold strOfNums
      rw [e0]
    rw [this, e]

def eqB (l m : List UInt8) : Bool := decide (l = m)
theorem eqB_self (l : List UInt8) : eqB l l = true := decide_eq_true rfl
set_option maxHeartbeats 400000 in
theorem eqb_spec (A B : Option Addr) (n n' c d : Nat) (l m : List UInt8) (w : World) (ha : IsB w A n l) (hb : IsB w B n' m) :
    Calls Tryz.prog 11 #[.slice A n c, .slice B n' d] w fun e w' => e = .returned (.bool (eqB l m)) ∧ w = w' := by
  have h1 := run_str (c := c) ha
  have h2 := run_str (c := d) hb
  have H := Lib.hid (show (l == m) = eqB l m by unfold eqB; rw [Bool.eq_iff_iff]; simp)
  clear ha hb
  go_enter Tryz.func11, Tryz.ntmps11
  go_wp2
  go_ret
  exact ⟨ret_bool H.out, rfl⟩

theorem isb_new (w : World) (v : Int) (x : UInt8) (h : v = (x.toNat : Int)) : IsB (w.alloc (.cells #[.int .u8 v] 5)) (some ⟨w.heap.size, 0, none⟩) 1 [x] := by
  subst h
  refine ⟨rfl, fun j u hj => ?_⟩
  have e : j = 0 := by
    have := (List.getElem?_eq_some_iff.1 hj).1
    simp [bc] at this; omega
  subst e
  have hu : u = .int .u8 (x.toNat : Int) := by simpa [bc] using hj.symm
  subst hu
  exact ⟨_, _, rfl, (Blk.new w 5 _).cell 0⟩
end Go.Proofs.YtejalfjeihlpeaaGreat
