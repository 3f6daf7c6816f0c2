/-
  Package le: reading the arguments of the properties.
-/
import Derived.Test.YtmahemllfghdfaaLeI
import Derived.Test.YtmahemllfghdfaaOpen
import Derived.Lib.SmallJoins
namespace Go.Proofs.Ytmahemllfghdfaa
open Go.ChangeShapes Go.WideShapes Go.ChangeAt Go.RowKit Go.Acc
theorem acc_own : ownKnob Try.prog.godebug = none := by kernel_rfl
theorem acc_laidOut : laidOutB Try.prog = true := by kernel_rfl
section
variable {H : Type} {enc : TypeId × Value → H} {W : World} {base : Nat} {spare : Nat → Bool} {held : Bool}
/-- A slice of bytes, read. -/
theorem bytes_read {fuel : Nat} {v : Value} {x : DataW H × List MemPlace} (h : DataW.trod enc Try.prog W base spare held fuel 25 [v] = some x) :
    ∃ A n c l, v = .slice A n c ∧ IsB W A n l ∧ n ≤ c ∧ n ≤ 9223372036854775807 := by
  rcases open_ints Try.underlying25 Try.underlying5 (by kernel_rfl) h with ⟨e, _⟩ | ⟨a, n, c, zs, e, _, hl, hm, hz, _, hcell, hwf⟩
  · obtain rfl : v = .slice none 0 0 := by simpa using e
    exact ⟨none, 0, 0, [], rfl, Is.nil _ _, by omega, by omega⟩
  · obtain rfl : v = .slice (some a) n c := by simpa using e
    simp only [maxLen] at hm
    have hzn : n ≤ zs.length := by rw [hz]; split <;> omega
    obtain ⟨l, hl', _⟩ := is_of_elems (f := bc) (sz := 1) bc_len (by omega) (w := W) (a := a) (n := n) (fun _ => True) (fun i hi => by
      have hc := hcell i (by omega)
      have hb := u8_bd (hwf (zs.getD i 0) (by rw [List.getD_eq_getElem?_getD, List.getElem?_eq_getElem (show i < zs.length by omega)]; exact List.getElem_mem _))
      refine ⟨UInt8.ofNat (zs.getD i 0).toNat, trivial, fun j hj => ?_⟩
      obtain rfl : j = 0 := by omega
      have e : ((UInt8.ofNat (zs.getD i 0).toNat).toNat : Int) = zs.getD i 0 := by rw [UInt8.toNat_ofNat']; omega
      rw [Nat.mul_one, Nat.add_zero, hc]
      show _ = some (Value.int .u8 _)
      rw [e])
    exact ⟨some a, n, c, l, rfl, hl', hl, by omega⟩
set_option maxRecDepth 100000 in
/-- An argument that is a slice of bytes. -/
theorem bytes_arg {v : Value} {d : DataW H} {p : List MemPlace} (k : Value.okWide Try.prog W .any base 25 v) (h : DataW.Trod enc Try.prog W 0 (fun _ => true) true 25 v d p) :
    ∃ A n c l, v = .slice A n c ∧ IsB W A n l ∧ n ≤ c ∧ n ≤ 9223372036854775807 := by
  obtain ⟨_, _, _, rfl⟩ := okWide_slice Try.underlying25 k
  obtain ⟨f, hf⟩ := h
  exact bytes_read hf
set_option maxRecDepth 100000 in
theorem int_arg {v : Value} {d : DataW H} {p : List MemPlace} (k : Value.okWide Try.prog W .any base 3 v) (h : DataW.Trod enc Try.prog W 0 (fun _ => true) true 3 v d p) :
    ∃ m : Int, v = .int .i64 m ∧ -9223372036854775808 ≤ m ∧ m ≤ 9223372036854775807 := by
  obtain ⟨m, rfl⟩ := okWide_int Try.underlying3 k
  obtain ⟨f, hf⟩ := h
  obtain ⟨m', e, _, hw⟩ := DataW.trod_int Try.underlying3 hf
  obtain rfl : m = m' := by simpa [Value.cells] using e
  exact ⟨m, rfl, i64_bd hw⟩
set_option maxRecDepth 100000 in
theorem u64_arg {v : Value} {d : DataW H} {p : List MemPlace} (k : Value.okWide Try.prog W .any base 41 v) (h : DataW.Trod enc Try.prog W 0 (fun _ => true) true 41 v d p) :
    ∃ u : Nat, v = .int .u64 u ∧ (u : Int) < 18446744073709551616 := by
  obtain ⟨m, rfl⟩ := okWide_int Try.underlying41 k
  obtain ⟨f, hf⟩ := h
  obtain ⟨m', e, _, hw⟩ := DataW.trod_int Try.underlying41 hf
  obtain rfl : m = m' := by simpa [Value.cells] using e
  have := u64_bd hw
  obtain ⟨u, rfl⟩ := Int.eq_ofNat_of_zero_le this.1
  exact ⟨u, rfl, by have := this.2; omega⟩
end
end Go.Proofs.Ytmahemllfghdfaa
