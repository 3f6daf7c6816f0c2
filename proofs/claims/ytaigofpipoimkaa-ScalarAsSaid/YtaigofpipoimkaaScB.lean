/-
  Package scalar: the functions of the readers.
-/
import Derived.Test.YtaigofpipoimkaaScA
namespace Go.Proofs.Ytaigofpipoimkaa
open Go.RowKit Go.Acc
/-- A value: its sign and its amount. -/
def valV (s : Bool) (u : Nat) : Value := .agg #[.bool s, .int .u64 (u : Int)]
theorem loadU_64 (l : List UInt8) (a x : Int) : (loadU l a x : Int) < 18446744073709551616 := by
  unfold loadU
  split
  · rename_i h
    have h1 := isW_iff.1 h.1
    have hl := leVal_lt ((l.drop a.toNat).take x.toNat)
    have h8 : ((l.drop a.toNat).take x.toNat).length ≤ 8 := by
      have := List.length_take_le x.toNat (l.drop a.toNat)
      omega
    have := Nat.pow_le_pow_right (n := 2) (by omega) (Nat.mul_le_mul_left 8 h8)
    omega
  · omega
theorem sx_bnd {y u : Nat} (hy : y = 1 ∨ y = 2 ∨ y = 4 ∨ y = 8) (hu : u < 2 ^ (8 * y)) : -9223372036854775808 ≤ sx y u ∧ sx y u ≤ 9223372036854775807 := by
  unfold sx
  rcases hy with rfl | rfl | rfl | rfl <;> split <;> simp at * <;> omega
theorem loadI_64 (l : List UInt8) (a x : Int) : -9223372036854775808 ≤ loadI l a x ∧ loadI l a x ≤ 9223372036854775807 := by
  unfold loadI
  split
  · rename_i h
    have h1 := isW_iff.1 h.1
    have hx := loadU_lt l a x.toNat
    rw [show ((x.toNat : Nat) : Int) = x by omega] at hx
    exact sx_bnd (by omega) hx
  · omega
set_option maxRecDepth 100000 in
set_option maxHeartbeats 400000 in
theorem rd1_spec (A : Option Addr) (n c : Nat) (a x : Int) (w : World) : Calls Try.prog 124 #[.slice A n c, .int .i64 a, .int .i64 x] w fun e w' => e = .returned (valV false 0) ∧ Below w.heap.size w w' := by
  go_enter Try.func124, Try.ntmps124
  go_wp2
  refine bodyPost_ret (v := .agg #[.bool false, .int .u64 0]) (by simp [results, Try.results124, go_sem]) rfl ⟨rfl, ?_⟩
  exact (Below.refl _ _).alloc (Nat.le_refl _) _
set_option maxRecDepth 100000 in
set_option maxHeartbeats 400000 in
theorem without_spec (A : Option Addr) (n c : Nat) (a x : Int) (l : List UInt8) (w : World) (hl : IsB w A n l) (hc : n ≤ c) (hn : n ≤ 9223372036854775807) :
    Calls Try.prog 126 #[.slice A n c, .int .i64 a, .int .i64 x] w fun e w' => e = .returned (valV false (loadU l a x)) ∧ Below w.heap.size w w' := by
  have HL := Lib.hid (hl.alloc (.cells #[.bool false, .int .u64 0] 83))
  have HB := Lib.hid ((Below.refl w.heap.size w).alloc (Nat.le_refl _) (.cells #[.bool false, .int .u64 0] 83))
  have HK := Lib.hid (Blk.new w 83 #[.bool false, .int .u64 0])
  clear hl
  go_enter Try.func126, Try.ntmps126
  go_wp2_with fail
  go_at_call 61
  refine (load_spec A n c a x l _ HL.out hc hn).mono ?_
  rintro e w1 ⟨rfl, hb⟩
  have HB := Lib.hid (pure_below HB.out hb)
  have HK := Lib.hid (HK.out.pure hb)
  have c0 : w1.cell? ⟨w.heap.size, 0, none⟩ = some (.bool false) := HK.out.cell 0
  have c1 : w1.cell? ⟨w.heap.size, 1, none⟩ = some (.int .u64 0) := HK.out.cell 1
  have f0 := HK.out.frozen 0
  have f1 := HK.out.frozen 1
  clear hb
  go_wp2
  refine bodyPost_ret (v := .agg #[.bool false, .int .u64 (loadU l a x)]) (by simp [results, Try.results126, go_sem, c0, c1]) rfl ⟨rfl, ?_⟩
  exact (HB.out.setCell (Nat.le_refl _) _).setCell (Nat.le_refl _) _
set_option maxRecDepth 100000 in
set_option maxHeartbeats 400000 in
theorem rd2_spec (A : Option Addr) (n c : Nat) (a x : Int) (l : List UInt8) (w : World) (hl : IsB w A n l) (hc : n ≤ c) (hn : n ≤ 9223372036854775807) :
    Calls Try.prog 125 #[.slice A n c, .int .i64 a, .int .i64 x] w fun e w' => e = .returned (valV false (min (loadU l a x) 1)) ∧ Below w.heap.size w w' := by
  have HL := Lib.hid (hl.alloc (.cells #[.bool false, .int .u64 0] 83))
  have HB := Lib.hid ((Below.refl w.heap.size w).alloc (Nat.le_refl _) (.cells #[.bool false, .int .u64 0] 83))
  have HK := Lib.hid (Blk.new w 83 #[.bool false, .int .u64 0])
  have hf : ∀ W : World, (Instr.field 83 (.agg #[.bool false, .int .u64 (loadU l a x)]) 1).run Try.prog W = .ok (.int .u64 (loadU l a x)) W := by
    generalize (loadU l a x : Int) = u
    intro W
    kernel_rfl
  have hmin : (if (1 : Int) < (loadU l a x : Int) then (1 : Int) else (loadU l a x : Int)) = ((min (loadU l a x) 1 : Nat) : Int) := by
    split <;> omega
  obtain ⟨m, hm⟩ : ∃ m, min (loadU l a x) 1 = m := ⟨_, rfl⟩
  rw [hm] at hmin ⊢
  clear hl hm
  go_enter Try.func125, Try.ntmps125
  go_wp2_with fail
  go_at_call 126
  refine (without_spec A n c a x l _ HL.out hc hn).mono ?_
  unfold valV
  rintro e w1 ⟨rfl, hb⟩
  have HB := Lib.hid (pure_below HB.out hb)
  have HK := Lib.hid (HK.out.pure hb)
  have c0 : w1.cell? ⟨w.heap.size, 0, none⟩ = some (.bool false) := HK.out.cell 0
  have c1 : w1.cell? ⟨w.heap.size, 1, none⟩ = some (.int .u64 0) := HK.out.cell 1
  have f0 := HK.out.frozen 0
  have f1 := HK.out.frozen 1
  clear hb
  go_wp2
  refine bodyPost_ret (v := .agg #[.bool false, .int .u64 m]) (by simp [results, Try.results125, go_sem, c0, c1]) rfl ⟨rfl, ?_⟩
  exact (HB.out.setCell (Nat.le_refl _) _).setCell (Nat.le_refl _) _
set_option maxRecDepth 100000 in
set_option maxHeartbeats 400000 in
theorem with_spec (A : Option Addr) (n c : Nat) (a x : Int) (l : List UInt8) (w : World) (hl : IsB w A n l) (hc : n ≤ c) (hn : n ≤ 9223372036854775807) :
    Calls Try.prog 127 #[.slice A n c, .int .i64 a, .int .i64 x] w fun e w' => e = .returned (valV (decide (loadI l a x < 0)) (loadI l a x).natAbs) ∧ Below w.heap.size w w' := by
  have HL := Lib.hid (hl.alloc (.cells #[.bool false, .int .u64 0] 83))
  have HB := Lib.hid ((Below.refl w.heap.size w).alloc (Nat.le_refl _) (.cells #[.bool false, .int .u64 0] 83))
  have HK := Lib.hid (Blk.new w 83 #[.bool false, .int .u64 0])
  have hbd := loadI_64 l a x
  have b1 := hbd.1
  have b2 := hbd.2
  obtain ⟨i, hi⟩ : ∃ i, loadI l a x = i := ⟨_, rfl⟩
  rw [hi] at b1 b2 ⊢
  have HI := Lib.hid hi
  clear hl hbd hi
  go_enter Try.func127, Try.ntmps127
  go_wp2_with fail
  go_at_call 134
  refine (loadi_spec A n c a x l _ HL.out hc hn).mono ?_
  rw [HI.out]
  rintro e w1 ⟨rfl, hb⟩
  have HB := Lib.hid (pure_below HB.out hb)
  have HK := Lib.hid (HK.out.pure hb)
  have c0 : w1.cell? ⟨w.heap.size, 0, none⟩ = some (.bool false) := HK.out.cell 0
  have c1 : w1.cell? ⟨w.heap.size, 1, none⟩ = some (.int .u64 0) := HK.out.cell 1
  have f0 := HK.out.frozen 0
  have f1 := HK.out.frozen 1
  clear hb
  by_cases h0 : i < 0
  · have e1 : IntKind.u64.wrap (-IntKind.u64.wrap i) = ((i.natAbs : Nat) : Int) := by simp only [IntKind.wrap_u64]; omega
    have hd : decide (i < 0) = true := decide_eq_true h0
    have HE := Lib.hid e1
    have HD := Lib.hid hd
    clear e1 b1 b2
    go_wp2
    refine bodyPost_ret (v := .agg #[.bool true, .int .u64 (i.natAbs : Nat)]) (by simp [results, Try.results127, go_sem, c0, c1]; try exact HE.out) rfl ⟨by rw [HD.out]; rfl, ?_⟩
    exact (HB.out.setCell (Nat.le_refl _) _).setCell (Nat.le_refl _) _
  · have e1 : IntKind.u64.wrap i = ((i.natAbs : Nat) : Int) := by simp only [IntKind.wrap_u64]; omega
    have hd : decide (i < 0) = false := decide_eq_false h0
    have HE := Lib.hid e1
    have HD := Lib.hid hd
    clear e1 b1 b2
    go_wp2
    refine bodyPost_ret (v := .agg #[.bool false, .int .u64 (i.natAbs : Nat)]) (by simp [results, Try.results127, go_sem, c0, c1]; try exact HE.out) rfl ⟨by rw [HD.out]; rfl, ?_⟩
    exact (HB.out.setCell (Nat.le_refl _) _).setCell (Nat.le_refl _) _
end Go.Proofs.Ytaigofpipoimkaa
