/-
  Package ref and its reference: Root.
-/
import Derived.Test.YtogaifggpfipaaaRefC
namespace Go.Proofs.Ytogaifggpfipaaa
open Go.RowKit Go.Acc
theorem ret_root {a b c d e : Int} {r : (Int × Int × Int × Int)} {f : Int} (h : r = (a, b, c, d)) (h' : f = e) :
    Ending.returned (.tuple #[.agg #[.int .i64 a, .int .i64 b, .int .i64 c, .int .i64 d], .int .i64 e]) = .returned (.tuple #[.agg #[.int .i64 r.1, .int .i64 r.2.1, .int .i64 r.2.2.1, .int .i64 r.2.2.2], .int .i64 f]) := by
  subst h h'; rfl
theorem rootR_no {l : List UInt8} (h : rootE l ≠ 0) : rootR l = (0, 0, 0, 0) := if_neg h
theorem rootE_1 {l : List UInt8} (h : l.length < 3) : rootE l = 210 := if_pos (.inl h)
theorem rootE_2 {l : List UInt8} {x : UInt8} (hx : l.getD (l.length - 1) 0 = x) (hw : isW (x.toNat : Int) = false) : rootE l = 210 := by
  unfold rootE
  rw [hx, if_pos (.inr hw)]
theorem rootE_3 {l : List UInt8} {x y : UInt8} (h3 : ¬ l.length < 3) (hx : l.getD (l.length - 1) 0 = x) (hy : l.getD (l.length - 2) 0 = y) (hw : isW (x.toNat : Int) = true) (hu : unE y ≠ 0) : rootE l = unE y := by
  unfold rootE
  rw [hx, hy, if_neg (by rw [hw]; simp; omega), if_pos hu]
theorem rootE_4 {l : List UInt8} {x y : UInt8} (h3 : ¬ l.length < 3) (hx : l.getD (l.length - 1) 0 = x) (hy : l.getD (l.length - 2) 0 = y) (hw : isW (x.toNat : Int) = true) (hu : unE y = 0) :
    rootE l = if (l.length : Int) - 2 - x.toNat < 0 ∨ ((l.length : Int) - 2 - x.toNat) % x.toNat ≠ 0 then 210 else 0 := by
  unfold rootE
  rw [hx, hy, if_neg (by rw [hw]; simp; omega), if_neg (by simpa using hu)]
theorem rootR_ok {l : List UInt8} {x y : UInt8} (hx : l.getD (l.length - 1) 0 = x) (hy : l.getD (l.length - 2) 0 = y) (he : rootE l = 0) : rootR l = ((l.length : Int) - 2 - x.toNat, ((x.toNat : Nat) : Int), unT y, unW y) := by
  unfold rootR
  rw [if_pos he, hx, hy]
end Go.Proofs.Ytogaifggpfipaaa
