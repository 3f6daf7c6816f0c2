/-
  The head of an argument, b[:min(len(b), N)], under one name.
-/
import Derived.Test.YtmahemllfghdfaaLeA
namespace Go.Proofs.Ytmahemllfghdfaa
open Go.RowKit Go.Acc
theorem cut_run (A : Option Addr) (n c M : Nat) (h : M ≤ c) (w : World) : (Instr.sliceAt 25 (.slice A n c) none (some (.int .i64 M)) none).run Try.prog w = .ok (.slice A M c) w := by
  have ht : Try.prog.underlying 25 = some (.slice (Try.prog.elem 25)) := by kernel_rfl
  have hz : (sizeOf (Try.prog.elem 25)).run Try.prog w = .ok 1 w := by kernel_rfl
  rw [run_sliceAt_slice (h := ht), run_slice_h (ht := ht) (h0 := by omega) (h2 := by omega), hz]
  simp [Result.andThen, sliced]
  intro _
  cases A <;> simp [Addr.add]
theorem cut_facts (A : Option Addr) (n c B : Nat) (b : Int) (hb : b = B) (hc : n ≤ c) : ∃ M : Nat, M ≤ n ∧ M ≤ B ∧ (if b < (n : Int) then b else (n : Int)) = (M : Int) ∧
    ∀ w, (Instr.sliceAt 25 (.slice A n c) none (some (.int .i64 M)) none).run Try.prog w = .ok (.slice A M c) w := by
  subst hb
  by_cases h : n ≤ B
  · exact ⟨n, Nat.le_refl _, h, if_neg (by omega), fun w => cut_run A n c n hc w⟩
  · exact ⟨B, by omega, Nat.le_refl _, if_pos (by omega), fun w => cut_run A n c B (by omega) w⟩
/-- b[lo:hi], its address under one name. -/
theorem cut_any (A : Option Addr) (n c lo hi : Nat) (h1 : lo ≤ hi) (h2 : hi ≤ n) (hc : n ≤ c) : ∃ X, (∀ w, (Instr.sliceAt 25 (.slice A n c) (some (.int .i64 lo)) (some (.int .i64 hi)) none).run Try.prog w = .ok (.slice X (hi - lo) (c - lo)) w) ∧
    ∀ w l, IsB w A n l → IsB w X (hi - lo) ((l.drop lo).take (hi - lo)) := by
  refine ⟨if c = lo then A else A.map (·.add lo), fun w => ?_, fun w l h => ?_⟩
  · have ht : Try.prog.underlying 25 = some (.slice (Try.prog.elem 25)) := by kernel_rfl
    have hz : (sizeOf (Try.prog.elem 25)).run Try.prog w = .ok 1 w := by kernel_rfl
    rw [run_sliceAt_slice (h := ht), run_slice_lh (ht := ht) (h0 := by omega) (h1 := by omega) (h2 := by omega), hz]
    simp [Result.andThen, sliced]
  · split
    · have e : hi - lo = 0 := by omega
      rw [e, List.take_zero]
      exact Is.nil _ _
    · exact isb_part h (by omega)
/-- b[lo:hi:hi], its address under one name. -/
theorem cut_full (A : Option Addr) (n c lo hi : Nat) (h1 : lo ≤ hi) (h2 : hi ≤ n) (hc : n ≤ c) : ∃ X, (∀ w, (Instr.sliceAt 25 (.slice A n c) (some (.int .i64 lo)) (some (.int .i64 hi)) (some (.int .i64 hi))).run Try.prog w = .ok (.slice X (hi - lo) (hi - lo)) w) ∧
    ∀ w l, IsB w A n l → IsB w X (hi - lo) ((l.drop lo).take (hi - lo)) := by
  refine ⟨if hi = lo then A else A.map (·.add lo), fun w => ?_, fun w l h => ?_⟩
  · have ht : Try.prog.underlying 25 = some (.slice (Try.prog.elem 25)) := by kernel_rfl
    have hz : (sizeOf (Try.prog.elem 25)).run Try.prog w = .ok 1 w := by kernel_rfl
    rw [run_sliceAt_slice (h := ht), run_slice_lhm (ht := ht) (h0 := by omega) (h1 := by omega) (h2 := by omega) (h3 := by omega), hz]
    simp [Result.andThen, sliced]
  · split
    · have e : hi - lo = 0 := by omega
      rw [e, List.take_zero]
      exact Is.nil _ _
    · exact isb_part h (by omega)
end Go.Proofs.Ytmahemllfghdfaa
