/-
  Package le: spoiling bytes, bringing numbers into a range, widths.
-/
import Derived.Test.YtaigofpipoimkaaLeG
namespace Go.Proofs.Ytaigofpipoimkaa
open Go.RowKit Go.Acc

theorem tmod_pos {i n : Int} (hn : 0 < n) (h : 0 ≤ i.tmod n) : i.tmod n = i % n := by
  have h1 := Int.tmod_lt_of_pos i hn
  have h2 : (i.tmod n) % n = i % n := by rw [Int.tmod_def, Int.sub_emod, Int.mul_emod_right]; simp
  rw [← h2, Int.emod_eq_of_lt h h1]
theorem tmod_neg {i n : Int} (hn : 0 < n) (h : i.tmod n < 0) : i.tmod n + n = i % n ∧ 0 ≤ i.tmod n + n := by
  have h1 : -n < i.tmod n := by
    have := Int.lt_tmod_of_pos i hn
    omega
  have h2 : (i.tmod n + n) % n = i % n := by rw [Int.add_emod_right, Int.tmod_def, Int.sub_emod, Int.mul_emod_right]; simp
  exact ⟨by rw [← h2, Int.emod_eq_of_lt (by omega) (by omega)], by omega⟩
set_option maxHeartbeats 400000 in
theorem bring_spec (i n : Int) (w : World) (h0 : 0 < n) (hn : n ≤ 9223372036854775807):
    Calls Try.prog 23 #[.int .i64 i, .int .i64 n] w fun e w' => e = .returned (.int .i64 (i % n)) ∧ w = w' := by
  by_cases h : 0 ≤ i.tmod n
  · have H := Lib.hid (tmod_pos h0 h)
    go_enter Try.func23, Try.ntmps23
    go_wp2
    go_ret
    exact ⟨ret_int H.out, rfl⟩
  · have h' : i.tmod n < 0 := by omega
    have H := Lib.hid (tmod_neg h0 h').1
    have hlo := (tmod_neg h0 h').2
    clear h
    go_enter Try.func23, Try.ntmps23
    go_wp2
    go_ret
    exact ⟨ret_int H.out, rfl⟩
/-- One of the four widths. -/
def wd (n : Int) : Nat := 2 ^ (n % 4).toNat
theorem wd_isW (n : Int) : isW (wd n : Int) = true := by
  have : n % 4 = 0 ∨ n % 4 = 1 ∨ n % 4 = 2 ∨ n % 4 = 3 := by omega
  unfold wd
  rcases this with h | h | h | h <;> rw [h] <;> decide
end Go.Proofs.Ytaigofpipoimkaa
