/-
  Package scalar's reference: Int, Uint, Bool.
-/
import Derived.Test.YtaigofpipoimkaaScF
namespace Go.Proofs.Ytaigofpipoimkaa
open Go.RowKit Go.Acc
theorem top_yes2 {u : Nat} (h : top63 u = true) : decide ((9223372036854775807 : Int) < (u : Int)) = true := by
  unfold top63 at h
  rw [decide_eq_true_eq] at h ⊢
  omega
theorem top_no2 {u : Nat} (h : top63 u = false) : decide ((9223372036854775807 : Int) < (u : Int)) = false := by
  unfold top63 at h
  rw [decide_eq_false_iff_not] at h ⊢
  omega
theorem wrap_back (u : Nat) (h1 : 1 ≤ u) (h2 : (u : Int) ≤ 9223372036854775808) : wrap64 (wrap64 (-wrap64 ((u : Int) - 1)) - 1) = -(u : Int) := by
  unfold wrap64
  omega
end Go.Proofs.Ytaigofpipoimkaa
