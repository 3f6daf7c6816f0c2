/-
  make([]byte, n): a row of zeros of the call's own; a literal slice of bytes as a row of the call's own.
-/
import Derived.Test.YtaigofpipoimkaaLeI
namespace Go.Proofs.Ytaigofpipoimkaa
open Go.RowKit Go.Acc
theorem made_bc (n : Nat) : (madeCells #[.int .u8 0] n).toList = (List.replicate n (0 : UInt8)).flatMap bc := by
  apply List.ext_getElem?
  intro j
  by_cases hj : j < n
  · have h1 := fm_at bc_len (List.replicate n (0 : UInt8)) j 0 (by simpa using hj) (by omega)
    rw [Nat.mul_one, Nat.add_zero, List.getElem_replicate] at h1
    rw [h1]
    simp [madeCells, hj, bc, Nat.mod_one]
  · rw [List.getElem?_eq_none (by simp [madeCells]; omega), List.getElem?_eq_none (by rw [fm_length bc_len]; simp; omega)]
theorem make_b (n : Nat) (hn : n ≤ 1099511627776) : ∃ Z : Array Value, Z.size = n ∧ Z.toList = (List.replicate n (0 : UInt8)).flatMap bc ∧ ∀ W : World, (Instr.makeSlice 25 (.int .i64 (n : Int)) (.int .i64 (n : Int))).run Try.prog W = .ok (.slice (some ⟨W.heap.size, 0, none⟩) n n) (W.alloc (.cells Z 5)) := by
  obtain ⟨i, hi, hz, hs, hb⟩ := info_parts info_b
  have hm := made_bc n
  refine ⟨_, ?_, hm, fun W => ?_⟩
  · have := congrArg List.length hm
    rw [fm_length bc_len] at this
    simpa using this
  · have hr := run_make (P := Try.prog) W 25 5 i _ Try.underlying25 hi hz .i64 .i64 n n (by omega) (Int.le_refl _) (by rw [hb]; omega) (by omega)
    simp only [Int.toNat_natCast, hs, Nat.mul_one] at hr
    exact hr
theorem ownb_lit (W : World) (Z : Array Value) (n B : Nat) (l : List UInt8) (hB : B ≤ W.heap.size) (hn : l.length = n) (hm : n ≤ 1099511627776) (hZ : Z.toList = l.flatMap bc) : OwnB (W.alloc (.cells Z 5)) B (some ⟨W.heap.size, 0, none⟩) n n l := by
  refine ⟨hn, ?_⟩
  have hs : Z.size = n * 1 := by rw [← Array.length_toList, hZ, fm_length bc_len, hn]
  have := World.ownsRow_lit (base := B) (e := 5) (size := 1) W Z n hB (by simp only [maxLen]; omega) hs
  rw [hZ] at this
  exact this
theorem ownb_at {W : World} {g : Nat} (Z : Array Value) (n : Nat) (l : List UInt8) (hg : W.heap.size = g) (hn : l.length = n) (hm : n ≤ 1099511627776) (hZ : Z.toList = l.flatMap bc) : OwnB (W.alloc (.cells Z 5)) g (some ⟨g, 0, none⟩) n n l := by
  subst hg
  exact ownb_lit W Z n _ l (Nat.le_refl _) hn hm hZ
end Go.Proofs.Ytaigofpipoimkaa
