/-
  Package scalar's reference: Place, the number, Int, Uint, Bool.
-/
import Derived.Test.YtaigofpipoimkaaScE
namespace Go.Proofs.Ytaigofpipoimkaa
open Go.RowKit Go.Acc
theorem isS_67 {t : Int} (h : isS t = true) (hi : inlineT t = false) : t = 6 ∨ t = 7 := by
  rcases rd_cases h with rfl | rfl | rfl | rfl | rfl | rfl
  · exact absurd hi (by decide)
  · exact absurd hi (by decide)
  · exact absurd hi (by decide)
  · exact .inl rfl
  · exact .inr rfl
  · exact absurd hi (by decide)
theorem isS_no {t : Int} (h : isS t = false) : (t != 6) = true ∧ (t != 7) = true := by
  constructor
  · rw [bne_iff_ne]; rintro rfl; exact absurd h (by decide)
  · rw [bne_iff_ne]; rintro rfl; exact absurd h (by decide)
theorem ret_b2 {k : IntKind} {s s' : Bool} {a b : Int} {v : Value} (h : s = s') (h' : a = b) : Ending.returned (.tuple #[.bool s, .int k a, v]) = .returned (.tuple #[.bool s', .int k b, v]) := by rw [h, h']
end Go.Proofs.Ytaigofpipoimkaa
