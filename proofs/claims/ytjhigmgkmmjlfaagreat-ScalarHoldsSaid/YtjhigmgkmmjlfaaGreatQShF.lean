/-
  ScalarHolds: a number in a built document is read unchanged.
-/
import Derived.Test.YtjhigmgkmmjlfaaGreatQShE
namespace Go.Proofs.YtjhigmgkmmjlfaaGreat
open Go.RowKit Go.Acc
set_option maxRecDepth 100000 in
set_option maxHeartbeats 1000000 in
theorem holds_3n (u : Nat) (k a : Int) (w : World) (hu : u < 18446744073709551616) (hn : 9223372036854775808 ≤ u) (hk : k % 6 = 3) : Calls Tryz.prog 5 #[.int .u64 (u : Int), .int .i64 k, .int .i64 a] w fun e w' => e = .returned (.bool true) ∧ Below w.heap.size w w' := by
  have HBR := Lib.hid (fun (w : World) => show Calls Tryz.prog 14 #[.int .i64 k, .int .i64 6] w fun e w' => e = .returned (.int .i64 3) ∧ w = w' by have h := bring_spec k 6 w (by omega) (by omega); rw [hk] at h; exact h)
  have HBU := Lib.hid (fun (w : World) => show Calls Tryz.prog 29 #[.int .i64 4, .int .u64 (u : Int), .int .i64 a] w (BuiltW w 4 false u) from built_4 u a w hu)
  have hlt : decide (9223372036854775807 < (u : Int)) = true := decide_eq_true (by omega)
  have HTOP := Lib.hid (show top63 u = true from decide_eq_true hn)
  have HNE := Lib.hid (show ((u : Int) != 0) = true by rw [bne_iff_ne]; omega)
  clear hk hu hn
  go_enter Tryz.func5, Tryz.ntmps5
  go_wp2_with fail
  go_at_call 28
  refine (scworks_spec _).mono ?_
  rintro e w1 ⟨rfl, hb⟩
  have HB1 := Lib.hid hb
  clear hb
  go_wp2_with fail
  go_at_call 14
  refine (HBR.out _).mono ?_
  rintro e w' ⟨rfl, rfl⟩
  have HB2 := Lib.hid (HB1.out.alloc HB1.out.size (.cells #[.int .i64 1, .int .i64 2, .int .i64 3, .int .i64 4, .int .i64 8, .int .i64 9] 3))
  go_wp2_with fail
  go_at_call 29
  refine (built_is (HBU.out _)).mono ?_
  rintro e w2 ⟨A, n, c, L, p, q, t, v, rfl, hS, hb⟩
  have HB3 := Lib.hid (pure_below HB2.out hb)
  have hA3 := (Below.refl w2.heap.size w2).alloc (Nat.le_refl _) (.cells #[.int .i64 p, .int .i64 q, .int .i64 t, .int .i64 v] 36)
  have HS := Lib.hid (hS.pure hA3)
  have HX := Lib.hid (Blk.new w2 36 #[.int .i64 p, .int .i64 q, .int .i64 t, .int .i64 v])
  have HB4 := Lib.hid (pure_below HB3.out hA3)
  clear hS hb hA3
  go_wp2_with fail
  go_at_call 17
  refine (kind_is2 p q t v 4 _ HS.out.kind).mono ?_
  rintro e w3 ⟨rfl, hb⟩
  replace HS := Lib.hid (HS.out.pure hb)
  replace HX := Lib.hid (HX.out.pure hb)
  replace HB4 := Lib.hid (pure_below HB4.out hb)
  have x0 := cell0 HX.out
  have x1 := cell1 HX.out
  have x2 := cell2 HX.out
  have x3 := cell3 HX.out
  clear hb
  go_wp2_with fail
  go_at_call 30
  refine (HS.out.bool true HNE.out).mono ?_
  rintro e w4 ⟨rfl, hb⟩
  replace HS := Lib.hid (HS.out.pure hb)
  replace HX := Lib.hid (HX.out.pure hb)
  replace HB4 := Lib.hid (pure_below HB4.out hb)
  clear hb x0 x1 x2 x3
  have x0 := cell0 HX.out
  have x1 := cell1 HX.out
  have x2 := cell2 HX.out
  have x3 := cell3 HX.out
  go_wp2_with fail
  go_at_call 31
  refine (HS.out.ints 0 10 (by rw [HTOP.out]; rfl) (by rw [HTOP.out]; rfl)).mono ?_
  rintro e w5 ⟨rfl, hb⟩
  replace HS := Lib.hid (HS.out.pure hb)
  replace HX := Lib.hid (HX.out.pure hb)
  replace HB4 := Lib.hid (pure_below HB4.out hb)
  clear hb x0 x1 x2 x3
  have x0 := cell0 HX.out
  have x1 := cell1 HX.out
  have x2 := cell2 HX.out
  have x3 := cell3 HX.out
  go_wp2_with fail
  go_at_call 32
  refine (HS.out.uints (u : Int) 0 rfl rfl).mono ?_
  rintro e w6 ⟨rfl, hb⟩
  replace HB4 := Lib.hid (pure_below HB4.out hb)
  clear hb x0 x1 x2 x3
  go_wp2_with fail
  go_ret
  exact ⟨rfl, HB4.out⟩
set_option maxRecDepth 100000 in
set_option maxHeartbeats 1000000 in
theorem holds_3p (u : Nat) (k a : Int) (w : World) (hu : u < 9223372036854775808) (hk : k % 6 = 3) : Calls Tryz.prog 5 #[.int .u64 (u : Int), .int .i64 k, .int .i64 a] w fun e w' => e = .returned (.bool true) ∧ Below w.heap.size w w' := by
  have HBR := Lib.hid (fun (w : World) => show Calls Tryz.prog 14 #[.int .i64 k, .int .i64 6] w fun e w' => e = .returned (.int .i64 3) ∧ w = w' by have h := bring_spec k 6 w (by omega) (by omega); rw [hk] at h; exact h)
  have hw : wrap64 (u : Int) = (u : Int) := by unfold wrap64; omega
  have HBU := Lib.hid (fun (w : World) => show Calls Tryz.prog 29 #[.int .i64 4, .int .u64 (u : Int), .int .i64 a] w (BuiltW w 4 false u) from built_4 u a w (by omega))
  have hlt : decide (9223372036854775807 < (u : Int)) = false := decide_eq_false (by omega)
  have HTOP := Lib.hid (show top63 u = false from decide_eq_false (by omega))
  obtain ⟨b, hb0⟩ : ∃ b, ((u : Int) != 0) = b := ⟨_, rfl⟩
  have HNE := Lib.hid hb0
  clear hk hu
  cases b with
  | true =>
    go_enter Tryz.func5, Tryz.ntmps5
    go_wp2_with fail
    go_at_call 28
    refine (scworks_spec _).mono ?_
    rintro e w1 ⟨rfl, hb⟩
    have HB1 := Lib.hid hb
    clear hb
    go_wp2_with fail
    go_at_call 14
    refine (HBR.out _).mono ?_
    rintro e w' ⟨rfl, rfl⟩
    have HB2 := Lib.hid (HB1.out.alloc HB1.out.size (.cells #[.int .i64 1, .int .i64 2, .int .i64 3, .int .i64 4, .int .i64 8, .int .i64 9] 3))
    go_wp2_with fail
    go_at_call 29
    refine (built_is (HBU.out _)).mono ?_
    rintro e w2 ⟨A, n, c, L, p, q, t, v, rfl, hS, hb⟩
    have HB3 := Lib.hid (pure_below HB2.out hb)
    have hA3 := (Below.refl w2.heap.size w2).alloc (Nat.le_refl _) (.cells #[.int .i64 p, .int .i64 q, .int .i64 t, .int .i64 v] 36)
    have HS := Lib.hid (hS.pure hA3)
    have HX := Lib.hid (Blk.new w2 36 #[.int .i64 p, .int .i64 q, .int .i64 t, .int .i64 v])
    have HB4 := Lib.hid (pure_below HB3.out hA3)
    clear hS hb hA3
    go_wp2_with fail
    go_at_call 17
    refine (kind_is2 p q t v 4 _ HS.out.kind).mono ?_
    rintro e w3 ⟨rfl, hb⟩
    replace HS := Lib.hid (HS.out.pure hb)
    replace HX := Lib.hid (HX.out.pure hb)
    replace HB4 := Lib.hid (pure_below HB4.out hb)
    have x0 := cell0 HX.out
    have x1 := cell1 HX.out
    have x2 := cell2 HX.out
    have x3 := cell3 HX.out
    clear hb
    go_wp2_with fail
    go_at_call 30
    refine (HS.out.bool true HNE.out).mono ?_
    rintro e w4 ⟨rfl, hb⟩
    replace HS := Lib.hid (HS.out.pure hb)
    replace HX := Lib.hid (HX.out.pure hb)
    replace HB4 := Lib.hid (pure_below HB4.out hb)
    clear hb x0 x1 x2 x3
    have x0 := cell0 HX.out
    have x1 := cell1 HX.out
    have x2 := cell2 HX.out
    have x3 := cell3 HX.out
    go_wp2_with fail
    go_at_call 31
    refine (HS.out.ints (u : Int) 0 (by rw [HTOP.out]; rfl) (by rw [HTOP.out]; rfl)).mono ?_
    rintro e w5 ⟨rfl, hb⟩
    replace HS := Lib.hid (HS.out.pure hb)
    replace HX := Lib.hid (HX.out.pure hb)
    replace HB4 := Lib.hid (pure_below HB4.out hb)
    clear hb x0 x1 x2 x3
    have x0 := cell0 HX.out
    have x1 := cell1 HX.out
    have x2 := cell2 HX.out
    have x3 := cell3 HX.out
    go_wp2_with fail
    go_at_call 32
    refine (HS.out.uints (u : Int) 0 rfl rfl).mono ?_
    rintro e w6 ⟨rfl, hb⟩
    replace HB4 := Lib.hid (pure_below HB4.out hb)
    clear hb x0 x1 x2 x3
    go_wp2_with fail
    go_ret
    exact ⟨rfl, HB4.out⟩
  | false =>
    go_enter Tryz.func5, Tryz.ntmps5
    go_wp2_with fail
    go_at_call 28
    refine (scworks_spec _).mono ?_
    rintro e w1 ⟨rfl, hb⟩
    have HB1 := Lib.hid hb
    clear hb
    go_wp2_with fail
    go_at_call 14
    refine (HBR.out _).mono ?_
    rintro e w' ⟨rfl, rfl⟩
    have HB2 := Lib.hid (HB1.out.alloc HB1.out.size (.cells #[.int .i64 1, .int .i64 2, .int .i64 3, .int .i64 4, .int .i64 8, .int .i64 9] 3))
    go_wp2_with fail
    go_at_call 29
    refine (built_is (HBU.out _)).mono ?_
    rintro e w2 ⟨A, n, c, L, p, q, t, v, rfl, hS, hb⟩
    have HB3 := Lib.hid (pure_below HB2.out hb)
    have hA3 := (Below.refl w2.heap.size w2).alloc (Nat.le_refl _) (.cells #[.int .i64 p, .int .i64 q, .int .i64 t, .int .i64 v] 36)
    have HS := Lib.hid (hS.pure hA3)
    have HX := Lib.hid (Blk.new w2 36 #[.int .i64 p, .int .i64 q, .int .i64 t, .int .i64 v])
    have HB4 := Lib.hid (pure_below HB3.out hA3)
    clear hS hb hA3
    go_wp2_with fail
    go_at_call 17
    refine (kind_is2 p q t v 4 _ HS.out.kind).mono ?_
    rintro e w3 ⟨rfl, hb⟩
    replace HS := Lib.hid (HS.out.pure hb)
    replace HX := Lib.hid (HX.out.pure hb)
    replace HB4 := Lib.hid (pure_below HB4.out hb)
    have x0 := cell0 HX.out
    have x1 := cell1 HX.out
    have x2 := cell2 HX.out
    have x3 := cell3 HX.out
    clear hb
    go_wp2_with fail
    go_at_call 30
    refine (HS.out.bool false HNE.out).mono ?_
    rintro e w4 ⟨rfl, hb⟩
    replace HS := Lib.hid (HS.out.pure hb)
    replace HX := Lib.hid (HX.out.pure hb)
    replace HB4 := Lib.hid (pure_below HB4.out hb)
    clear hb x0 x1 x2 x3
    have x0 := cell0 HX.out
    have x1 := cell1 HX.out
    have x2 := cell2 HX.out
    have x3 := cell3 HX.out
    go_wp2_with fail
    go_at_call 31
    refine (HS.out.ints (u : Int) 0 (by rw [HTOP.out]; rfl) (by rw [HTOP.out]; rfl)).mono ?_
    rintro e w5 ⟨rfl, hb⟩
    replace HS := Lib.hid (HS.out.pure hb)
    replace HX := Lib.hid (HX.out.pure hb)
    replace HB4 := Lib.hid (pure_below HB4.out hb)
    clear hb x0 x1 x2 x3
    have x0 := cell0 HX.out
    have x1 := cell1 HX.out
    have x2 := cell2 HX.out
    have x3 := cell3 HX.out
    go_wp2_with fail
    go_at_call 32
    refine (HS.out.uints (u : Int) 0 rfl rfl).mono ?_
    rintro e w6 ⟨rfl, hb⟩
    replace HB4 := Lib.hid (pure_below HB4.out hb)
    clear hb x0 x1 x2 x3
    go_wp2_with fail
    go_ret
    exact ⟨rfl, HB4.out⟩
set_option maxRecDepth 100000 in
set_option maxHeartbeats 1000000 in
theorem holds_5n (u : Nat) (k a : Int) (w : World) (hu : u < 18446744073709551616) (hn : 9223372036854775808 ≤ u) (hk : k % 6 = 5) : Calls Tryz.prog 5 #[.int .u64 (u : Int), .int .i64 k, .int .i64 a] w fun e w' => e = .returned (.bool true) ∧ Below w.heap.size w w' := by
  have HBR := Lib.hid (fun (w : World) => show Calls Tryz.prog 14 #[.int .i64 k, .int .i64 6] w fun e w' => e = .returned (.int .i64 5) ∧ w = w' by have h := bring_spec k 6 w (by omega) (by omega); rw [hk] at h; exact h)
  have HBU := Lib.hid (fun (w : World) => show Calls Tryz.prog 29 #[.int .i64 9, .int .u64 (u : Int), .int .i64 a] w (BuiltW w 9 false u) from built_9 u a w hu)
  have hlt : decide (9223372036854775807 < (u : Int)) = true := decide_eq_true (by omega)
  have HTOP := Lib.hid (show top63 u = true from decide_eq_true hn)
  have HNE := Lib.hid (show ((u : Int) != 0) = true by rw [bne_iff_ne]; omega)
  clear hk hu hn
  go_enter Tryz.func5, Tryz.ntmps5
  go_wp2_with fail
  go_at_call 28
  refine (scworks_spec _).mono ?_
  rintro e w1 ⟨rfl, hb⟩
  have HB1 := Lib.hid hb
  clear hb
  go_wp2_with fail
  go_at_call 14
  refine (HBR.out _).mono ?_
  rintro e w' ⟨rfl, rfl⟩
  have HB2 := Lib.hid (HB1.out.alloc HB1.out.size (.cells #[.int .i64 1, .int .i64 2, .int .i64 3, .int .i64 4, .int .i64 8, .int .i64 9] 3))
  go_wp2_with fail
  go_at_call 29
  refine (built_is (HBU.out _)).mono ?_
  rintro e w2 ⟨A, n, c, L, p, q, t, v, rfl, hS, hb⟩
  have HB3 := Lib.hid (pure_below HB2.out hb)
  have hA3 := (Below.refl w2.heap.size w2).alloc (Nat.le_refl _) (.cells #[.int .i64 p, .int .i64 q, .int .i64 t, .int .i64 v] 36)
  have HS := Lib.hid (hS.pure hA3)
  have HX := Lib.hid (Blk.new w2 36 #[.int .i64 p, .int .i64 q, .int .i64 t, .int .i64 v])
  have HB4 := Lib.hid (pure_below HB3.out hA3)
  clear hS hb hA3
  go_wp2_with fail
  go_at_call 17
  refine (kind_is2 p q t v 9 _ HS.out.kind).mono ?_
  rintro e w3 ⟨rfl, hb⟩
  replace HS := Lib.hid (HS.out.pure hb)
  replace HX := Lib.hid (HX.out.pure hb)
  replace HB4 := Lib.hid (pure_below HB4.out hb)
  have x0 := cell0 HX.out
  have x1 := cell1 HX.out
  have x2 := cell2 HX.out
  have x3 := cell3 HX.out
  clear hb
  go_wp2_with fail
  go_at_call 30
  refine (HS.out.bool true HNE.out).mono ?_
  rintro e w4 ⟨rfl, hb⟩
  replace HS := Lib.hid (HS.out.pure hb)
  replace HX := Lib.hid (HX.out.pure hb)
  replace HB4 := Lib.hid (pure_below HB4.out hb)
  clear hb x0 x1 x2 x3
  have x0 := cell0 HX.out
  have x1 := cell1 HX.out
  have x2 := cell2 HX.out
  have x3 := cell3 HX.out
  go_wp2_with fail
  go_at_call 31
  refine (HS.out.ints 0 10 (by rw [HTOP.out]; rfl) (by rw [HTOP.out]; rfl)).mono ?_
  rintro e w5 ⟨rfl, hb⟩
  replace HS := Lib.hid (HS.out.pure hb)
  replace HX := Lib.hid (HX.out.pure hb)
  replace HB4 := Lib.hid (pure_below HB4.out hb)
  clear hb x0 x1 x2 x3
  have x0 := cell0 HX.out
  have x1 := cell1 HX.out
  have x2 := cell2 HX.out
  have x3 := cell3 HX.out
  go_wp2_with fail
  go_at_call 32
  refine (HS.out.uints (u : Int) 0 rfl rfl).mono ?_
  rintro e w6 ⟨rfl, hb⟩
  replace HB4 := Lib.hid (pure_below HB4.out hb)
  clear hb x0 x1 x2 x3
  go_wp2_with fail
  go_ret
  exact ⟨rfl, HB4.out⟩
set_option maxRecDepth 100000 in
set_option maxHeartbeats 1000000 in
theorem holds_5p (u : Nat) (k a : Int) (w : World) (hu : u < 9223372036854775808) (hk : k % 6 = 5) : Calls Tryz.prog 5 #[.int .u64 (u : Int), .int .i64 k, .int .i64 a] w fun e w' => e = .returned (.bool true) ∧ Below w.heap.size w w' := by
  have HBR := Lib.hid (fun (w : World) => show Calls Tryz.prog 14 #[.int .i64 k, .int .i64 6] w fun e w' => e = .returned (.int .i64 5) ∧ w = w' by have h := bring_spec k 6 w (by omega) (by omega); rw [hk] at h; exact h)
  have hw : wrap64 (u : Int) = (u : Int) := by unfold wrap64; omega
  have HBU := Lib.hid (fun (w : World) => show Calls Tryz.prog 29 #[.int .i64 9, .int .u64 (u : Int), .int .i64 a] w (BuiltW w 9 false u) from built_9 u a w (by omega))
  have hlt : decide (9223372036854775807 < (u : Int)) = false := decide_eq_false (by omega)
  have HTOP := Lib.hid (show top63 u = false from decide_eq_false (by omega))
  obtain ⟨b, hb0⟩ : ∃ b, ((u : Int) != 0) = b := ⟨_, rfl⟩
  have HNE := Lib.hid hb0
  clear hk hu
  cases b with
  | true =>
    go_enter Tryz.func5, Tryz.ntmps5
    go_wp2_with fail
    go_at_call 28
    refine (scworks_spec _).mono ?_
    rintro e w1 ⟨rfl, hb⟩
    have HB1 := Lib.hid hb
    clear hb
    go_wp2_with fail
    go_at_call 14
    refine (HBR.out _).mono ?_
    rintro e w' ⟨rfl, rfl⟩
    have HB2 := Lib.hid (HB1.out.alloc HB1.out.size (.cells #[.int .i64 1, .int .i64 2, .int .i64 3, .int .i64 4, .int .i64 8, .int .i64 9] 3))
    go_wp2_with fail
    go_at_call 29
    refine (built_is (HBU.out _)).mono ?_
    rintro e w2 ⟨A, n, c, L, p, q, t, v, rfl, hS, hb⟩
    have HB3 := Lib.hid (pure_below HB2.out hb)
    have hA3 := (Below.refl w2.heap.size w2).alloc (Nat.le_refl _) (.cells #[.int .i64 p, .int .i64 q, .int .i64 t, .int .i64 v] 36)
    have HS := Lib.hid (hS.pure hA3)
    have HX := Lib.hid (Blk.new w2 36 #[.int .i64 p, .int .i64 q, .int .i64 t, .int .i64 v])
    have HB4 := Lib.hid (pure_below HB3.out hA3)
    clear hS hb hA3
    go_wp2_with fail
    go_at_call 17
    refine (kind_is2 p q t v 9 _ HS.out.kind).mono ?_
    rintro e w3 ⟨rfl, hb⟩
    replace HS := Lib.hid (HS.out.pure hb)
    replace HX := Lib.hid (HX.out.pure hb)
    replace HB4 := Lib.hid (pure_below HB4.out hb)
    have x0 := cell0 HX.out
    have x1 := cell1 HX.out
    have x2 := cell2 HX.out
    have x3 := cell3 HX.out
    clear hb
    go_wp2_with fail
    go_at_call 30
    refine (HS.out.bool true HNE.out).mono ?_
    rintro e w4 ⟨rfl, hb⟩
    replace HS := Lib.hid (HS.out.pure hb)
    replace HX := Lib.hid (HX.out.pure hb)
    replace HB4 := Lib.hid (pure_below HB4.out hb)
    clear hb x0 x1 x2 x3
    have x0 := cell0 HX.out
    have x1 := cell1 HX.out
    have x2 := cell2 HX.out
    have x3 := cell3 HX.out
    go_wp2_with fail
    go_at_call 31
    refine (HS.out.ints (u : Int) 0 (by rw [HTOP.out]; rfl) (by rw [HTOP.out]; rfl)).mono ?_
    rintro e w5 ⟨rfl, hb⟩
    replace HS := Lib.hid (HS.out.pure hb)
    replace HX := Lib.hid (HX.out.pure hb)
    replace HB4 := Lib.hid (pure_below HB4.out hb)
    clear hb x0 x1 x2 x3
    have x0 := cell0 HX.out
    have x1 := cell1 HX.out
    have x2 := cell2 HX.out
    have x3 := cell3 HX.out
    go_wp2_with fail
    go_at_call 32
    refine (HS.out.uints (u : Int) 0 rfl rfl).mono ?_
    rintro e w6 ⟨rfl, hb⟩
    replace HB4 := Lib.hid (pure_below HB4.out hb)
    clear hb x0 x1 x2 x3
    go_wp2_with fail
    go_ret
    exact ⟨rfl, HB4.out⟩
  | false =>
    go_enter Tryz.func5, Tryz.ntmps5
    go_wp2_with fail
    go_at_call 28
    refine (scworks_spec _).mono ?_
    rintro e w1 ⟨rfl, hb⟩
    have HB1 := Lib.hid hb
    clear hb
    go_wp2_with fail
    go_at_call 14
    refine (HBR.out _).mono ?_
    rintro e w' ⟨rfl, rfl⟩
    have HB2 := Lib.hid (HB1.out.alloc HB1.out.size (.cells #[.int .i64 1, .int .i64 2, .int .i64 3, .int .i64 4, .int .i64 8, .int .i64 9] 3))
    go_wp2_with fail
    go_at_call 29
    refine (built_is (HBU.out _)).mono ?_
    rintro e w2 ⟨A, n, c, L, p, q, t, v, rfl, hS, hb⟩
    have HB3 := Lib.hid (pure_below HB2.out hb)
    have hA3 := (Below.refl w2.heap.size w2).alloc (Nat.le_refl _) (.cells #[.int .i64 p, .int .i64 q, .int .i64 t, .int .i64 v] 36)
    have HS := Lib.hid (hS.pure hA3)
    have HX := Lib.hid (Blk.new w2 36 #[.int .i64 p, .int .i64 q, .int .i64 t, .int .i64 v])
    have HB4 := Lib.hid (pure_below HB3.out hA3)
    clear hS hb hA3
    go_wp2_with fail
    go_at_call 17
    refine (kind_is2 p q t v 9 _ HS.out.kind).mono ?_
    rintro e w3 ⟨rfl, hb⟩
    replace HS := Lib.hid (HS.out.pure hb)
    replace HX := Lib.hid (HX.out.pure hb)
    replace HB4 := Lib.hid (pure_below HB4.out hb)
    have x0 := cell0 HX.out
    have x1 := cell1 HX.out
    have x2 := cell2 HX.out
    have x3 := cell3 HX.out
    clear hb
    go_wp2_with fail
    go_at_call 30
    refine (HS.out.bool false HNE.out).mono ?_
    rintro e w4 ⟨rfl, hb⟩
    replace HS := Lib.hid (HS.out.pure hb)
    replace HX := Lib.hid (HX.out.pure hb)
    replace HB4 := Lib.hid (pure_below HB4.out hb)
    clear hb x0 x1 x2 x3
    have x0 := cell0 HX.out
    have x1 := cell1 HX.out
    have x2 := cell2 HX.out
    have x3 := cell3 HX.out
    go_wp2_with fail
    go_at_call 31
    refine (HS.out.ints (u : Int) 0 (by rw [HTOP.out]; rfl) (by rw [HTOP.out]; rfl)).mono ?_
    rintro e w5 ⟨rfl, hb⟩
    replace HS := Lib.hid (HS.out.pure hb)
    replace HX := Lib.hid (HX.out.pure hb)
    replace HB4 := Lib.hid (pure_below HB4.out hb)
    clear hb x0 x1 x2 x3
    have x0 := cell0 HX.out
    have x1 := cell1 HX.out
    have x2 := cell2 HX.out
    have x3 := cell3 HX.out
    go_wp2_with fail
    go_at_call 32
    refine (HS.out.uints (u : Int) 0 rfl rfl).mono ?_
    rintro e w6 ⟨rfl, hb⟩
    replace HB4 := Lib.hid (pure_below HB4.out hb)
    clear hb x0 x1 x2 x3
    go_wp2_with fail
    go_ret
    exact ⟨rfl, HB4.out⟩
end Go.Proofs.YtjhigmgkmmjlfaaGreat
