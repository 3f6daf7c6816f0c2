/-
  Package le: the plain laws of bytes and numbers (no program in sight).
-/
import Derived.Test.YtaigofpipoimkaaLeI
namespace Go.Proofs.Ytaigofpipoimkaa
open Go.Acc

/-- A fact that no tactic looks into. -/
structure Shut (p : Prop) : Prop where
  out : p

theorem leBytes_mod (n u : Nat) : leBytes n (u % 2 ^ (8 * n)) = leBytes n u := by
  unfold leBytes
  refine List.map_congr_left fun i hi => ?_
  have hi : i < n := List.mem_range.1 hi
  apply UInt8.toNat_inj.1
  rw [UInt8.toNat_ofNat', UInt8.toNat_ofNat']
  have e : 2 ^ (8 * n) = 2 ^ (8 * i) * (2 ^ 8 * 2 ^ (8 * (n - i - 1))) := by
    rw [← Nat.pow_add, ← Nat.pow_add]
    congr 1
    omega
  rw [e, Nat.mod_mul_right_div_self]
  exact Nat.mod_mul_right_mod _ _ _
theorem leBytes_congr {n u v : Nat} (h : u % 2 ^ (8 * n) = v % 2 ^ (8 * n)) : leBytes n u = leBytes n v := by
  rw [← leBytes_mod n u, h, leBytes_mod]
theorem leBytes_leVal (l : List UInt8) : leBytes l.length (leVal l) = l := by
  generalize hn : l.length = n
  induction n generalizing l with
  | zero => rw [List.eq_nil_of_length_eq_zero hn]; rfl
  | succ n ih =>
    obtain ⟨l', c, rfl⟩ : ∃ l' c, l = l' ++ [c] := ⟨l.dropLast, l.getLast (by intro e; simp [e] at hn), (List.dropLast_concat_getLast _).symm⟩
    have hn' : l'.length = n := by simpa using hn
    have hlt := leVal_lt l'
    rw [hn'] at hlt
    rw [leBytes_succ, leVal_snoc, hn']
    congr 1
    · rw [← leBytes_mod, Nat.add_mul_mod_self_right, Nat.mod_eq_of_lt hlt]
      exact ih l' hn'
    · congr 1
      rw [Nat.add_mul_div_right _ _ (Nat.two_pow_pos _), Nat.div_eq_of_lt hlt, Nat.zero_add]
      simp
theorem leVal_leBytes_lt {n u : Nat} (h : u < 2 ^ (8 * n)) : leVal (leBytes n u) = u := by
  rw [leVal_leBytes, Nat.mod_eq_of_lt h]

theorem sx_fits {y u : Nat} (hy : isW (y : Int) = true) (hu : u < 2 ^ (8 * y)) : fitsI y (sx y u) = true := by
  rw [fitsI_iff]
  rcases w_cases hy with rfl | rfl | rfl | rfl
  · right; unfold sx; split <;> simp only [Nat.reduceMul, Nat.reduceSub, Nat.reducePow] at * <;> omega
  · right; unfold sx; split <;> simp only [Nat.reduceMul, Nat.reduceSub, Nat.reducePow] at * <;> omega
  · right; unfold sx; split <;> simp only [Nat.reduceMul, Nat.reduceSub, Nat.reducePow] at * <;> omega
  · left; rfl
theorem sx_mod {y u : Nat} (hy : isW (y : Int) = true) (hu : u < 2 ^ (8 * y)) : (sx y u % 18446744073709551616).toNat % 2 ^ (8 * y) = u % 2 ^ (8 * y) := by
  rcases w_cases hy with rfl | rfl | rfl | rfl <;> unfold sx <;> split <;> simp only [Nat.reduceMul, Nat.reduceSub, Nat.reducePow] at * <;> omega
theorem sx_bd {y u : Nat} (hy : isW (y : Int) = true) (hu : u < 2 ^ (8 * y)) : -9223372036854775808 ≤ sx y u ∧ sx y u ≤ 9223372036854775807 := by
  rcases w_cases hy with rfl | rfl | rfl | rfl <;> unfold sx <;> split <;> simp only [Nat.reduceMul, Nat.reduceSub, Nat.reducePow] at * <;> omega
theorem u_small {y u : Nat} (hy : isW (y : Int) = true) (hu : u < 2 ^ (8 * y)) : (u : Int) < 18446744073709551616 := by
  rcases w_cases hy with rfl | rfl | rfl | rfl <;> simp only [Nat.reduceMul, Nat.reducePow] at * <;> omega
theorem fitsU_of {y u : Nat} (hu : u < 2 ^ (8 * y)) : fitsU y u = true := decide_eq_true (.inr hu)
theorem sx_bytes {y u : Nat} (hy : isW (y : Int) = true) (hu : u < 2 ^ (8 * y)) : leBytes y (sx y u % 18446744073709551616).toNat = leBytes y u := leBytes_congr (sx_mod hy hu)

theorem fits_lt {y u : Nat} (h : fitsU y u = true) (hu : (u : Int) < 18446744073709551616) : u < 2 ^ (8 * y) := by
  rcases of_decide_eq_true h with rfl | h
  · simp only [Nat.reduceMul, Nat.reducePow]; omega
  · exact h
/-! a stretch of a list replaced -/
theorem mid_len {l p : List UInt8} {k y : Nat} (hp : p.length = y) (hk : k + y ≤ l.length) : (l.take k ++ p ++ l.drop (k + y)).length = l.length := by simp; omega
theorem mid_part {l p : List UInt8} {k y : Nat} (hp : p.length = y) (hk : k + y ≤ l.length) : ((l.take k ++ p ++ l.drop (k + y)).drop k).take y = p := by
  rw [List.append_assoc, List.drop_left' (by simp; omega), List.take_left' hp]
theorem mid_back {l p : List UInt8} {k y : Nat} (hp : p.length = y) (hk : k + y ≤ l.length) : (l.take k ++ p ++ l.drop (k + y)).take k ++ (l.drop k).take y ++ (l.take k ++ p ++ l.drop (k + y)).drop (k + y) = l := by
  have e1 : (l.take k ++ p ++ l.drop (k + y)).take k = l.take k := by rw [List.append_assoc, List.take_left' (by simp; omega)]
  have e2 : (l.take k ++ p ++ l.drop (k + y)).drop (k + y) = l.drop (k + y) := by rw [List.drop_left' (by simp; omega)]
  rw [e1, e2, List.append_assoc, show l.drop (k + y) = (l.drop k).drop y from by rw [List.drop_drop], List.take_append_drop, List.take_append_drop]
theorem mid_get {l p : List UInt8} {k y i : Nat} (hp : p.length = y) (hk : k + y ≤ l.length) (hi : i < k ∨ k + y ≤ i) : (l.take k ++ p ++ l.drop (k + y))[i]? = l[i]? := by
  rcases hi with hi | hi
  · rw [List.append_assoc, List.getElem?_append_left (by simp; omega), List.getElem?_take, if_pos hi]
  · rw [List.getElem?_append_right (by simp; omega), List.getElem?_drop]
    congr 1
    simp
    omega
end Go.Proofs.Ytaigofpipoimkaa
