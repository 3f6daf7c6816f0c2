/-
  ScalarHolds: a number in a built document is read unchanged.
-/
import Derived.Test.YtjhigmgkmmjlfaaGreatQShD
namespace Go.Proofs.YtjhigmgkmmjlfaaGreat
open Go.RowKit Go.Acc
/-- What built hands over, ready for the readers. -/
structure ShR (w : World) (A : Option Addr) (n c : Nat) (L : List UInt8) (p q t v : Int) (k : Int) (neg : Bool) (mag : Nat) : Prop where
  b : IsB w A n L
  c : n ≤ c
  n : n ≤ 2097152
  kind : kindT t = k
  plc : plcE L p q t v = 0
  neg : scN L p q t v = neg
  mag : scU L p q t v = mag
theorem ShR.pure {w w' : World} {A : Option Addr} {n c : Nat} {L : List UInt8} {p q t v : Int} {k : Int} {neg : Bool} {mag : Nat} (h : ShR w A n c L p q t v k neg mag) (hb : Below w.heap.size w w') : ShR w' A n c L p q t v k neg mag := ⟨h.b.pure hb, h.c, h.n, h.kind, h.plc, h.neg, h.mag⟩
theorem built_is {k u a : Int} {neg : Bool} {mag : Nat} {w : World} (h : Calls Tryz.prog 29 #[.int .i64 k, .int .u64 u, .int .i64 a] w (BuiltW w k neg mag)) :
    Calls Tryz.prog 29 #[.int .i64 k, .int .u64 u, .int .i64 a] w fun e w' => ∃ A n c L p q t v, e = .returned (.tuple #[.slice A n c, .agg #[.int .i64 p, .int .i64 q, .int .i64 t, .int .i64 v], .bool true]) ∧ ShR w' A n c L p q t v k neg mag ∧ Below w.heap.size w w' := by
  refine h.mono ?_
  rintro e w' ⟨A, n, c, L, p, q, t, v, he, h1, h2, h3, hr, hF, hb⟩
  obtain ⟨f1, f2, f3, f4, f5⟩ := hF
  rw [hr] at f2 f3 f4 f5
  exact ⟨A, n, c, L, p, q, t, v, he, ⟨h1, h2, h3, f3, f2, f4, f5⟩, hb⟩
theorem kind_is2 (p q t v k : Int) (w : World) (h : kindT t = k) : Calls Tryz.prog 17 #[.agg #[.int .i64 p, .int .i64 q, .int .i64 t, .int .i64 v]] w fun e w' => e = .returned (.int .i64 k) ∧ Below w.heap.size w w' := by
  subst h
  exact kind_spec p q t v w
section
variable {w : World} {A : Option Addr} {n c : Nat} {L : List UInt8} {p q t v : Int} {k : Int} {neg : Bool} {mag : Nat}
theorem ShR.bool (h : ShR w A n c L p q t v k neg mag) (b : Bool) (hb : ((mag : Int) != 0) = b) : Calls Tryz.prog 30 #[.slice A n c, .agg #[.int .i64 p, .int .i64 q, .int .i64 t, .int .i64 v]] w fun e w' => e = .returned (.tuple #[.bool b, .int .i64 0]) ∧ Below w.heap.size w w' :=
  bool_is A n c p q t v L b 0 w h.b h.c (Nat.le_trans h.n (by decide)) (by unfold boolV; rw [h.mag]; exact hb) h.plc
theorem ShR.ints (h : ShR w A n c L p q t v k neg mag) (x er : Int) (hx : (if neg = true then -(mag : Int) else if top63 mag = true then 0 else mag) = x) (he : (if neg = true then (0 : Int) else if top63 mag = true then 10 else 0) = er) :
    Calls Tryz.prog 31 #[.slice A n c, .agg #[.int .i64 p, .int .i64 q, .int .i64 t, .int .i64 v], .int .i64 x, .int .i64 er] w fun e w' => e = .returned (.bool true) ∧ Below w.heap.size w w' :=
  ints_yes A n c p q t v L x er w h.b h.c (Nat.le_trans h.n (by decide)) (by unfold intV; rw [h.neg, h.mag]; exact hx) (by unfold intE; rw [if_neg (by rw [h.plc]; decide), h.neg, h.mag]; exact he)
theorem ShR.uints (h : ShR w A n c L p q t v k neg mag) (x er : Int) (hx : ((if neg = true then 0 else mag : Nat) : Int) = x) (he : (if neg = true then (10 : Int) else 0) = er) :
    Calls Tryz.prog 32 #[.slice A n c, .agg #[.int .i64 p, .int .i64 q, .int .i64 t, .int .i64 v], .int .u64 x, .int .i64 er] w fun e w' => e = .returned (.bool true) ∧ Below w.heap.size w w' :=
  uints_yes A n c p q t v L x er w h.b h.c (Nat.le_trans h.n (by decide)) (by unfold uintV; rw [h.neg, h.mag]; exact hx) (by unfold uintE; rw [if_neg (by rw [h.plc]; decide), h.neg]; exact he)
end
set_option maxRecDepth 100000 in
set_option maxHeartbeats 1000000 in
theorem holds_0 (u : Nat) (k a : Int) (w : World) (hu : u < 18446744073709551616) (hk : k % 6 = 0) : Calls Tryz.prog 5 #[.int .u64 (u : Int), .int .i64 k, .int .i64 a] w fun e w' => e = .returned (.bool true) ∧ Below w.heap.size w w' := by
  have HBR := Lib.hid (fun (w : World) => show Calls Tryz.prog 14 #[.int .i64 k, .int .i64 6] w fun e w' => e = .returned (.int .i64 0) ∧ w = w' by have h := bring_spec k 6 w (by omega) (by omega); rw [hk] at h; exact h)
  have HBU := Lib.hid (fun (w : World) => show Calls Tryz.prog 29 #[.int .i64 1, .int .u64 (u : Int), .int .i64 a] w (BuiltW w 1 false 0) from built_1 u a w hu)
  clear hk hu
  go_enter Tryz.func5, Tryz.ntmps5
  go_wp2_with fail
  go_at_call 28
  refine (scworks_spec _).mono ?_
  rintro e w1 ⟨rfl, hb⟩
  have HB1 := Lib.hid hb
  clear hb
  go_wp2_with fail
  go_at_call 14
  refine (HBR.out _).mono ?_
  rintro e w' ⟨rfl, rfl⟩
  have HB2 := Lib.hid (HB1.out.alloc HB1.out.size (.cells #[.int .i64 1, .int .i64 2, .int .i64 3, .int .i64 4, .int .i64 8, .int .i64 9] 3))
  go_wp2_with fail
  go_at_call 29
  refine (built_is (HBU.out _)).mono ?_
  rintro e w2 ⟨A, n, c, L, p, q, t, v, rfl, hS, hb⟩
  have HB3 := Lib.hid (pure_below HB2.out hb)
  have hA3 := (Below.refl w2.heap.size w2).alloc (Nat.le_refl _) (.cells #[.int .i64 p, .int .i64 q, .int .i64 t, .int .i64 v] 36)
  have HS := Lib.hid (hS.pure hA3)
  have HX := Lib.hid (Blk.new w2 36 #[.int .i64 p, .int .i64 q, .int .i64 t, .int .i64 v])
  have HB4 := Lib.hid (pure_below HB3.out hA3)
  clear hS hb hA3
  go_wp2_with fail
  go_at_call 17
  refine (kind_is2 p q t v 1 _ HS.out.kind).mono ?_
  rintro e w3 ⟨rfl, hb⟩
  replace HS := Lib.hid (HS.out.pure hb)
  replace HX := Lib.hid (HX.out.pure hb)
  replace HB4 := Lib.hid (pure_below HB4.out hb)
  have x0 := cell0 HX.out
  have x1 := cell1 HX.out
  have x2 := cell2 HX.out
  have x3 := cell3 HX.out
  clear hb
  go_wp2_with fail
  go_at_call 30
  refine (HS.out.bool false (by decide)).mono ?_
  rintro e w4 ⟨rfl, hb⟩
  replace HS := Lib.hid (HS.out.pure hb)
  replace HX := Lib.hid (HX.out.pure hb)
  replace HB4 := Lib.hid (pure_below HB4.out hb)
  clear hb x0 x1 x2 x3
  have x0 := cell0 HX.out
  have x1 := cell1 HX.out
  have x2 := cell2 HX.out
  have x3 := cell3 HX.out
  go_wp2_with fail
  go_at_call 31
  refine (HS.out.ints 0 0 (by decide) (by decide)).mono ?_
  rintro e w5 ⟨rfl, hb⟩
  replace HS := Lib.hid (HS.out.pure hb)
  replace HX := Lib.hid (HX.out.pure hb)
  replace HB4 := Lib.hid (pure_below HB4.out hb)
  clear hb x0 x1 x2 x3
  have x0 := cell0 HX.out
  have x1 := cell1 HX.out
  have x2 := cell2 HX.out
  have x3 := cell3 HX.out
  go_wp2_with fail
  go_at_call 32
  refine (HS.out.uints 0 0 (by decide) (by decide)).mono ?_
  rintro e w6 ⟨rfl, hb⟩
  replace HB4 := Lib.hid (pure_below HB4.out hb)
  clear hb x0 x1 x2 x3
  go_wp2_with fail
  go_ret
  exact ⟨rfl, HB4.out⟩
set_option maxRecDepth 100000 in
set_option maxHeartbeats 1000000 in
theorem holds_10 (u : Nat) (k a : Int) (w : World) (hu : u < 18446744073709551616) (hr : u % 2 = 0) (hk : k % 6 = 1) : Calls Tryz.prog 5 #[.int .u64 (u : Int), .int .i64 k, .int .i64 a] w fun e w' => e = .returned (.bool true) ∧ Below w.heap.size w w' := by
  have HBR := Lib.hid (fun (w : World) => show Calls Tryz.prog 14 #[.int .i64 k, .int .i64 6] w fun e w' => e = .returned (.int .i64 1) ∧ w = w' by have h := bring_spec k 6 w (by omega) (by omega); rw [hk] at h; exact h)
  have HBU := Lib.hid (fun (w : World) => show Calls Tryz.prog 29 #[.int .i64 2, .int .u64 (u : Int), .int .i64 a] w (BuiltW w 2 false 0) by have h := built_2 u a w hu; rw [hr] at h; exact h)
  have em : (u : Int).tmod 2 = 0 := by rw [Int.tmod_eq_emod_of_nonneg (by omega)]; omega
  clear hk hu hr
  go_enter Tryz.func5, Tryz.ntmps5
  go_wp2_with fail
  go_at_call 28
  refine (scworks_spec _).mono ?_
  rintro e w1 ⟨rfl, hb⟩
  have HB1 := Lib.hid hb
  clear hb
  go_wp2_with fail
  go_at_call 14
  refine (HBR.out _).mono ?_
  rintro e w' ⟨rfl, rfl⟩
  have HB2 := Lib.hid (HB1.out.alloc HB1.out.size (.cells #[.int .i64 1, .int .i64 2, .int .i64 3, .int .i64 4, .int .i64 8, .int .i64 9] 3))
  go_wp2_with fail
  go_at_call 29
  refine (built_is (HBU.out _)).mono ?_
  rintro e w2 ⟨A, n, c, L, p, q, t, v, rfl, hS, hb⟩
  have HB3 := Lib.hid (pure_below HB2.out hb)
  have hA3 := (Below.refl w2.heap.size w2).alloc (Nat.le_refl _) (.cells #[.int .i64 p, .int .i64 q, .int .i64 t, .int .i64 v] 36)
  have HS := Lib.hid (hS.pure hA3)
  have HX := Lib.hid (Blk.new w2 36 #[.int .i64 p, .int .i64 q, .int .i64 t, .int .i64 v])
  have HB4 := Lib.hid (pure_below HB3.out hA3)
  clear hS hb hA3
  go_wp2_with fail
  go_at_call 17
  refine (kind_is2 p q t v 2 _ HS.out.kind).mono ?_
  rintro e w3 ⟨rfl, hb⟩
  replace HS := Lib.hid (HS.out.pure hb)
  replace HX := Lib.hid (HX.out.pure hb)
  replace HB4 := Lib.hid (pure_below HB4.out hb)
  have x0 := cell0 HX.out
  have x1 := cell1 HX.out
  have x2 := cell2 HX.out
  have x3 := cell3 HX.out
  clear hb
  go_wp2_with fail
  go_at_call 30
  refine (HS.out.bool false (by decide)).mono ?_
  rintro e w4 ⟨rfl, hb⟩
  replace HS := Lib.hid (HS.out.pure hb)
  replace HX := Lib.hid (HX.out.pure hb)
  replace HB4 := Lib.hid (pure_below HB4.out hb)
  clear hb x0 x1 x2 x3
  have x0 := cell0 HX.out
  have x1 := cell1 HX.out
  have x2 := cell2 HX.out
  have x3 := cell3 HX.out
  go_wp2_with fail
  go_at_call 31
  refine (HS.out.ints 0 0 (by decide) (by decide)).mono ?_
  rintro e w5 ⟨rfl, hb⟩
  replace HS := Lib.hid (HS.out.pure hb)
  replace HX := Lib.hid (HX.out.pure hb)
  replace HB4 := Lib.hid (pure_below HB4.out hb)
  clear hb x0 x1 x2 x3
  have x0 := cell0 HX.out
  have x1 := cell1 HX.out
  have x2 := cell2 HX.out
  have x3 := cell3 HX.out
  go_wp2_with fail
  go_at_call 32
  refine (HS.out.uints 0 0 (by decide) (by decide)).mono ?_
  rintro e w6 ⟨rfl, hb⟩
  replace HB4 := Lib.hid (pure_below HB4.out hb)
  clear hb x0 x1 x2 x3
  go_wp2_with fail
  go_ret
  exact ⟨rfl, HB4.out⟩
set_option maxRecDepth 100000 in
set_option maxHeartbeats 1000000 in
theorem holds_11 (u : Nat) (k a : Int) (w : World) (hu : u < 18446744073709551616) (hr : u % 2 = 1) (hk : k % 6 = 1) : Calls Tryz.prog 5 #[.int .u64 (u : Int), .int .i64 k, .int .i64 a] w fun e w' => e = .returned (.bool true) ∧ Below w.heap.size w w' := by
  have HBR := Lib.hid (fun (w : World) => show Calls Tryz.prog 14 #[.int .i64 k, .int .i64 6] w fun e w' => e = .returned (.int .i64 1) ∧ w = w' by have h := bring_spec k 6 w (by omega) (by omega); rw [hk] at h; exact h)
  have HBU := Lib.hid (fun (w : World) => show Calls Tryz.prog 29 #[.int .i64 2, .int .u64 (u : Int), .int .i64 a] w (BuiltW w 2 false 1) by have h := built_2 u a w hu; rw [hr] at h; exact h)
  have em : (u : Int).tmod 2 = 1 := by rw [Int.tmod_eq_emod_of_nonneg (by omega)]; omega
  clear hk hu hr
  go_enter Tryz.func5, Tryz.ntmps5
  go_wp2_with fail
  go_at_call 28
  refine (scworks_spec _).mono ?_
  rintro e w1 ⟨rfl, hb⟩
  have HB1 := Lib.hid hb
  clear hb
  go_wp2_with fail
  go_at_call 14
  refine (HBR.out _).mono ?_
  rintro e w' ⟨rfl, rfl⟩
  have HB2 := Lib.hid (HB1.out.alloc HB1.out.size (.cells #[.int .i64 1, .int .i64 2, .int .i64 3, .int .i64 4, .int .i64 8, .int .i64 9] 3))
  go_wp2_with fail
  go_at_call 29
  refine (built_is (HBU.out _)).mono ?_
  rintro e w2 ⟨A, n, c, L, p, q, t, v, rfl, hS, hb⟩
  have HB3 := Lib.hid (pure_below HB2.out hb)
  have hA3 := (Below.refl w2.heap.size w2).alloc (Nat.le_refl _) (.cells #[.int .i64 p, .int .i64 q, .int .i64 t, .int .i64 v] 36)
  have HS := Lib.hid (hS.pure hA3)
  have HX := Lib.hid (Blk.new w2 36 #[.int .i64 p, .int .i64 q, .int .i64 t, .int .i64 v])
  have HB4 := Lib.hid (pure_below HB3.out hA3)
  clear hS hb hA3
  go_wp2_with fail
  go_at_call 17
  refine (kind_is2 p q t v 2 _ HS.out.kind).mono ?_
  rintro e w3 ⟨rfl, hb⟩
  replace HS := Lib.hid (HS.out.pure hb)
  replace HX := Lib.hid (HX.out.pure hb)
  replace HB4 := Lib.hid (pure_below HB4.out hb)
  have x0 := cell0 HX.out
  have x1 := cell1 HX.out
  have x2 := cell2 HX.out
  have x3 := cell3 HX.out
  clear hb
  go_wp2_with fail
  go_at_call 30
  refine (HS.out.bool true (by decide)).mono ?_
  rintro e w4 ⟨rfl, hb⟩
  replace HS := Lib.hid (HS.out.pure hb)
  replace HX := Lib.hid (HX.out.pure hb)
  replace HB4 := Lib.hid (pure_below HB4.out hb)
  clear hb x0 x1 x2 x3
  have x0 := cell0 HX.out
  have x1 := cell1 HX.out
  have x2 := cell2 HX.out
  have x3 := cell3 HX.out
  go_wp2_with fail
  go_at_call 31
  refine (HS.out.ints 1 0 (by decide) (by decide)).mono ?_
  rintro e w5 ⟨rfl, hb⟩
  replace HS := Lib.hid (HS.out.pure hb)
  replace HX := Lib.hid (HX.out.pure hb)
  replace HB4 := Lib.hid (pure_below HB4.out hb)
  clear hb x0 x1 x2 x3
  have x0 := cell0 HX.out
  have x1 := cell1 HX.out
  have x2 := cell2 HX.out
  have x3 := cell3 HX.out
  go_wp2_with fail
  go_at_call 32
  refine (HS.out.uints 1 0 (by decide) (by decide)).mono ?_
  rintro e w6 ⟨rfl, hb⟩
  replace HB4 := Lib.hid (pure_below HB4.out hb)
  clear hb x0 x1 x2 x3
  go_wp2_with fail
  go_ret
  exact ⟨rfl, HB4.out⟩
set_option maxRecDepth 100000 in
set_option maxHeartbeats 1000000 in
theorem holds_2n (u : Nat) (k a : Int) (w : World) (hu : u < 18446744073709551616) (hn : 9223372036854775808 ≤ u) (hk : k % 6 = 2) : Calls Tryz.prog 5 #[.int .u64 (u : Int), .int .i64 k, .int .i64 a] w fun e w' => e = .returned (.bool true) ∧ Below w.heap.size w w' := by
  have HBR := Lib.hid (fun (w : World) => show Calls Tryz.prog 14 #[.int .i64 k, .int .i64 6] w fun e w' => e = .returned (.int .i64 2) ∧ w = w' by have h := bring_spec k 6 w (by omega) (by omega); rw [hk] at h; exact h)
  obtain ⟨m, hm⟩ : ∃ m : Nat, 18446744073709551616 - u = m := ⟨_, rfl⟩
  have hw : wrap64 (u : Int) = -(m : Int) := by unfold wrap64; omega
  have HBU := Lib.hid (fun (w : World) => show Calls Tryz.prog 29 #[.int .i64 3, .int .u64 (u : Int), .int .i64 a] w (BuiltW w 3 true m) by
    have h := built_3 u a w hu
    rw [hw] at h
    have e1 : numNeg 3 (-(m : Int)) = true := decide_eq_true ⟨by omega, by omega⟩
    have e2 : numMag 3 (-(m : Int)) 0 = m := by unfold numMag; rw [if_neg (by omega), if_pos (by omega)]; omega
    rw [e1, e2] at h
    exact h)
  have hlt : 0 < m := by omega
  have HNE := Lib.hid (show ((m : Int) != 0) = true by rw [bne_iff_ne]; omega)
  clear hk hu hn hm
  go_enter Tryz.func5, Tryz.ntmps5
  go_wp2_with fail
  go_at_call 28
  refine (scworks_spec _).mono ?_
  rintro e w1 ⟨rfl, hb⟩
  have HB1 := Lib.hid hb
  clear hb
  go_wp2_with fail
  go_at_call 14
  refine (HBR.out _).mono ?_
  rintro e w' ⟨rfl, rfl⟩
  have HB2 := Lib.hid (HB1.out.alloc HB1.out.size (.cells #[.int .i64 1, .int .i64 2, .int .i64 3, .int .i64 4, .int .i64 8, .int .i64 9] 3))
  go_wp2_with fail
  go_at_call 29
  refine (built_is (HBU.out _)).mono ?_
  rintro e w2 ⟨A, n, c, L, p, q, t, v, rfl, hS, hb⟩
  have HB3 := Lib.hid (pure_below HB2.out hb)
  have hA3 := (Below.refl w2.heap.size w2).alloc (Nat.le_refl _) (.cells #[.int .i64 p, .int .i64 q, .int .i64 t, .int .i64 v] 36)
  have HS := Lib.hid (hS.pure hA3)
  have HX := Lib.hid (Blk.new w2 36 #[.int .i64 p, .int .i64 q, .int .i64 t, .int .i64 v])
  have HB4 := Lib.hid (pure_below HB3.out hA3)
  clear hS hb hA3
  go_wp2_with fail
  go_at_call 17
  refine (kind_is2 p q t v 3 _ HS.out.kind).mono ?_
  rintro e w3 ⟨rfl, hb⟩
  replace HS := Lib.hid (HS.out.pure hb)
  replace HX := Lib.hid (HX.out.pure hb)
  replace HB4 := Lib.hid (pure_below HB4.out hb)
  have x0 := cell0 HX.out
  have x1 := cell1 HX.out
  have x2 := cell2 HX.out
  have x3 := cell3 HX.out
  clear hb
  go_wp2_with fail
  go_at_call 30
  refine (HS.out.bool true HNE.out).mono ?_
  rintro e w4 ⟨rfl, hb⟩
  replace HS := Lib.hid (HS.out.pure hb)
  replace HX := Lib.hid (HX.out.pure hb)
  replace HB4 := Lib.hid (pure_below HB4.out hb)
  clear hb x0 x1 x2 x3
  have x0 := cell0 HX.out
  have x1 := cell1 HX.out
  have x2 := cell2 HX.out
  have x3 := cell3 HX.out
  go_wp2_with fail
  go_at_call 31
  refine (HS.out.ints (-(m : Int)) 0 (by simp) (by simp)).mono ?_
  rintro e w5 ⟨rfl, hb⟩
  replace HS := Lib.hid (HS.out.pure hb)
  replace HX := Lib.hid (HX.out.pure hb)
  replace HB4 := Lib.hid (pure_below HB4.out hb)
  clear hb x0 x1 x2 x3
  have x0 := cell0 HX.out
  have x1 := cell1 HX.out
  have x2 := cell2 HX.out
  have x3 := cell3 HX.out
  go_wp2_with fail
  go_at_call 32
  refine (HS.out.uints 0 10 (by simp) (by simp)).mono ?_
  rintro e w6 ⟨rfl, hb⟩
  replace HB4 := Lib.hid (pure_below HB4.out hb)
  clear hb x0 x1 x2 x3
  go_wp2_with fail
  go_ret
  exact ⟨rfl, HB4.out⟩
set_option maxRecDepth 100000 in
set_option maxHeartbeats 1000000 in
theorem holds_2p (u : Nat) (k a : Int) (w : World) (hu : u < 9223372036854775808) (hk : k % 6 = 2) : Calls Tryz.prog 5 #[.int .u64 (u : Int), .int .i64 k, .int .i64 a] w fun e w' => e = .returned (.bool true) ∧ Below w.heap.size w w' := by
  have HBR := Lib.hid (fun (w : World) => show Calls Tryz.prog 14 #[.int .i64 k, .int .i64 6] w fun e w' => e = .returned (.int .i64 2) ∧ w = w' by have h := bring_spec k 6 w (by omega) (by omega); rw [hk] at h; exact h)
  have hw : wrap64 (u : Int) = (u : Int) := by unfold wrap64; omega
  have HBU := Lib.hid (fun (w : World) => show Calls Tryz.prog 29 #[.int .i64 3, .int .u64 (u : Int), .int .i64 a] w (BuiltW w 3 false u) by
    have h := built_3 u a w (by omega)
    rw [hw] at h
    have e1 : numNeg 3 (u : Int) = false := decide_eq_false (by omega)
    have e2 : numMag 3 (u : Int) 0 = u := by unfold numMag; rw [if_neg (by omega), if_pos (by omega)]; omega
    rw [e1, e2] at h
    exact h)
  have hlt : decide ((u : Int) < 0) = false := decide_eq_false (by omega)
  have HTOP := Lib.hid (show top63 u = false from decide_eq_false (by omega))
  obtain ⟨b, hb0⟩ : ∃ b, ((u : Int) != 0) = b := ⟨_, rfl⟩
  have HNE := Lib.hid hb0
  clear hk hu
  cases b with
  | true =>
    go_enter Tryz.func5, Tryz.ntmps5
    go_wp2_with fail
    go_at_call 28
    refine (scworks_spec _).mono ?_
    rintro e w1 ⟨rfl, hb⟩
    have HB1 := Lib.hid hb
    clear hb
    go_wp2_with fail
    go_at_call 14
    refine (HBR.out _).mono ?_
    rintro e w' ⟨rfl, rfl⟩
    have HB2 := Lib.hid (HB1.out.alloc HB1.out.size (.cells #[.int .i64 1, .int .i64 2, .int .i64 3, .int .i64 4, .int .i64 8, .int .i64 9] 3))
    go_wp2_with fail
    go_at_call 29
    refine (built_is (HBU.out _)).mono ?_
    rintro e w2 ⟨A, n, c, L, p, q, t, v, rfl, hS, hb⟩
    have HB3 := Lib.hid (pure_below HB2.out hb)
    have hA3 := (Below.refl w2.heap.size w2).alloc (Nat.le_refl _) (.cells #[.int .i64 p, .int .i64 q, .int .i64 t, .int .i64 v] 36)
    have HS := Lib.hid (hS.pure hA3)
    have HX := Lib.hid (Blk.new w2 36 #[.int .i64 p, .int .i64 q, .int .i64 t, .int .i64 v])
    have HB4 := Lib.hid (pure_below HB3.out hA3)
    clear hS hb hA3
    go_wp2_with fail
    go_at_call 17
    refine (kind_is2 p q t v 3 _ HS.out.kind).mono ?_
    rintro e w3 ⟨rfl, hb⟩
    replace HS := Lib.hid (HS.out.pure hb)
    replace HX := Lib.hid (HX.out.pure hb)
    replace HB4 := Lib.hid (pure_below HB4.out hb)
    have x0 := cell0 HX.out
    have x1 := cell1 HX.out
    have x2 := cell2 HX.out
    have x3 := cell3 HX.out
    clear hb
    go_wp2_with fail
    go_at_call 30
    refine (HS.out.bool true HNE.out).mono ?_
    rintro e w4 ⟨rfl, hb⟩
    replace HS := Lib.hid (HS.out.pure hb)
    replace HX := Lib.hid (HX.out.pure hb)
    replace HB4 := Lib.hid (pure_below HB4.out hb)
    clear hb x0 x1 x2 x3
    have x0 := cell0 HX.out
    have x1 := cell1 HX.out
    have x2 := cell2 HX.out
    have x3 := cell3 HX.out
    go_wp2_with fail
    go_at_call 31
    refine (HS.out.ints (u : Int) 0 (by rw [HTOP.out]; rfl) (by rw [HTOP.out]; rfl)).mono ?_
    rintro e w5 ⟨rfl, hb⟩
    replace HS := Lib.hid (HS.out.pure hb)
    replace HX := Lib.hid (HX.out.pure hb)
    replace HB4 := Lib.hid (pure_below HB4.out hb)
    clear hb x0 x1 x2 x3
    have x0 := cell0 HX.out
    have x1 := cell1 HX.out
    have x2 := cell2 HX.out
    have x3 := cell3 HX.out
    go_wp2_with fail
    go_at_call 32
    refine (HS.out.uints (u : Int) 0 rfl rfl).mono ?_
    rintro e w6 ⟨rfl, hb⟩
    replace HB4 := Lib.hid (pure_below HB4.out hb)
    clear hb x0 x1 x2 x3
    go_wp2_with fail
    go_ret
    exact ⟨rfl, HB4.out⟩
  | false =>
    go_enter Tryz.func5, Tryz.ntmps5
    go_wp2_with fail
    go_at_call 28
    refine (scworks_spec _).mono ?_
    rintro e w1 ⟨rfl, hb⟩
    have HB1 := Lib.hid hb
    clear hb
    go_wp2_with fail
    go_at_call 14
    refine (HBR.out _).mono ?_
    rintro e w' ⟨rfl, rfl⟩
    have HB2 := Lib.hid (HB1.out.alloc HB1.out.size (.cells #[.int .i64 1, .int .i64 2, .int .i64 3, .int .i64 4, .int .i64 8, .int .i64 9] 3))
    go_wp2_with fail
    go_at_call 29
    refine (built_is (HBU.out _)).mono ?_
    rintro e w2 ⟨A, n, c, L, p, q, t, v, rfl, hS, hb⟩
    have HB3 := Lib.hid (pure_below HB2.out hb)
    have hA3 := (Below.refl w2.heap.size w2).alloc (Nat.le_refl _) (.cells #[.int .i64 p, .int .i64 q, .int .i64 t, .int .i64 v] 36)
    have HS := Lib.hid (hS.pure hA3)
    have HX := Lib.hid (Blk.new w2 36 #[.int .i64 p, .int .i64 q, .int .i64 t, .int .i64 v])
    have HB4 := Lib.hid (pure_below HB3.out hA3)
    clear hS hb hA3
    go_wp2_with fail
    go_at_call 17
    refine (kind_is2 p q t v 3 _ HS.out.kind).mono ?_
    rintro e w3 ⟨rfl, hb⟩
    replace HS := Lib.hid (HS.out.pure hb)
    replace HX := Lib.hid (HX.out.pure hb)
    replace HB4 := Lib.hid (pure_below HB4.out hb)
    have x0 := cell0 HX.out
    have x1 := cell1 HX.out
    have x2 := cell2 HX.out
    have x3 := cell3 HX.out
    clear hb
    go_wp2_with fail
    go_at_call 30
    refine (HS.out.bool false HNE.out).mono ?_
    rintro e w4 ⟨rfl, hb⟩
    replace HS := Lib.hid (HS.out.pure hb)
    replace HX := Lib.hid (HX.out.pure hb)
    replace HB4 := Lib.hid (pure_below HB4.out hb)
    clear hb x0 x1 x2 x3
    have x0 := cell0 HX.out
    have x1 := cell1 HX.out
    have x2 := cell2 HX.out
    have x3 := cell3 HX.out
    go_wp2_with fail
    go_at_call 31
    refine (HS.out.ints (u : Int) 0 (by rw [HTOP.out]; rfl) (by rw [HTOP.out]; rfl)).mono ?_
    rintro e w5 ⟨rfl, hb⟩
    replace HS := Lib.hid (HS.out.pure hb)
    replace HX := Lib.hid (HX.out.pure hb)
    replace HB4 := Lib.hid (pure_below HB4.out hb)
    clear hb x0 x1 x2 x3
    have x0 := cell0 HX.out
    have x1 := cell1 HX.out
    have x2 := cell2 HX.out
    have x3 := cell3 HX.out
    go_wp2_with fail
    go_at_call 32
    refine (HS.out.uints (u : Int) 0 rfl rfl).mono ?_
    rintro e w6 ⟨rfl, hb⟩
    replace HB4 := Lib.hid (pure_below HB4.out hb)
    clear hb x0 x1 x2 x3
    go_wp2_with fail
    go_ret
    exact ⟨rfl, HB4.out⟩
set_option maxRecDepth 100000 in
set_option maxHeartbeats 1000000 in
theorem holds_4n (u : Nat) (k a : Int) (w : World) (hu : u < 18446744073709551616) (hn : 9223372036854775808 ≤ u) (hk : k % 6 = 4) : Calls Tryz.prog 5 #[.int .u64 (u : Int), .int .i64 k, .int .i64 a] w fun e w' => e = .returned (.bool true) ∧ Below w.heap.size w w' := by
  have HBR := Lib.hid (fun (w : World) => show Calls Tryz.prog 14 #[.int .i64 k, .int .i64 6] w fun e w' => e = .returned (.int .i64 4) ∧ w = w' by have h := bring_spec k 6 w (by omega) (by omega); rw [hk] at h; exact h)
  obtain ⟨m, hm⟩ : ∃ m : Nat, 18446744073709551616 - u = m := ⟨_, rfl⟩
  have hw : wrap64 (u : Int) = -(m : Int) := by unfold wrap64; omega
  have HBU := Lib.hid (fun (w : World) => show Calls Tryz.prog 29 #[.int .i64 8, .int .u64 (u : Int), .int .i64 a] w (BuiltW w 8 true m) by
    have h := built_8 u a w hu
    rw [hw] at h
    have e1 : numNeg 8 (-(m : Int)) = true := decide_eq_true ⟨by omega, by omega⟩
    have e2 : numMag 8 (-(m : Int)) 0 = m := by unfold numMag; rw [if_neg (by omega), if_pos (by omega)]; omega
    rw [e1, e2] at h
    exact h)
  have hlt : 0 < m := by omega
  have HNE := Lib.hid (show ((m : Int) != 0) = true by rw [bne_iff_ne]; omega)
  clear hk hu hn hm
  go_enter Tryz.func5, Tryz.ntmps5
  go_wp2_with fail
  go_at_call 28
  refine (scworks_spec _).mono ?_
  rintro e w1 ⟨rfl, hb⟩
  have HB1 := Lib.hid hb
  clear hb
  go_wp2_with fail
  go_at_call 14
  refine (HBR.out _).mono ?_
  rintro e w' ⟨rfl, rfl⟩
  have HB2 := Lib.hid (HB1.out.alloc HB1.out.size (.cells #[.int .i64 1, .int .i64 2, .int .i64 3, .int .i64 4, .int .i64 8, .int .i64 9] 3))
  go_wp2_with fail
  go_at_call 29
  refine (built_is (HBU.out _)).mono ?_
  rintro e w2 ⟨A, n, c, L, p, q, t, v, rfl, hS, hb⟩
  have HB3 := Lib.hid (pure_below HB2.out hb)
  have hA3 := (Below.refl w2.heap.size w2).alloc (Nat.le_refl _) (.cells #[.int .i64 p, .int .i64 q, .int .i64 t, .int .i64 v] 36)
  have HS := Lib.hid (hS.pure hA3)
  have HX := Lib.hid (Blk.new w2 36 #[.int .i64 p, .int .i64 q, .int .i64 t, .int .i64 v])
  have HB4 := Lib.hid (pure_below HB3.out hA3)
  clear hS hb hA3
  go_wp2_with fail
  go_at_call 17
  refine (kind_is2 p q t v 8 _ HS.out.kind).mono ?_
  rintro e w3 ⟨rfl, hb⟩
  replace HS := Lib.hid (HS.out.pure hb)
  replace HX := Lib.hid (HX.out.pure hb)
  replace HB4 := Lib.hid (pure_below HB4.out hb)
  have x0 := cell0 HX.out
  have x1 := cell1 HX.out
  have x2 := cell2 HX.out
  have x3 := cell3 HX.out
  clear hb
  go_wp2_with fail
  go_at_call 30
  refine (HS.out.bool true HNE.out).mono ?_
  rintro e w4 ⟨rfl, hb⟩
  replace HS := Lib.hid (HS.out.pure hb)
  replace HX := Lib.hid (HX.out.pure hb)
  replace HB4 := Lib.hid (pure_below HB4.out hb)
  clear hb x0 x1 x2 x3
  have x0 := cell0 HX.out
  have x1 := cell1 HX.out
  have x2 := cell2 HX.out
  have x3 := cell3 HX.out
  go_wp2_with fail
  go_at_call 31
  refine (HS.out.ints (-(m : Int)) 0 (by simp) (by simp)).mono ?_
  rintro e w5 ⟨rfl, hb⟩
  replace HS := Lib.hid (HS.out.pure hb)
  replace HX := Lib.hid (HX.out.pure hb)
  replace HB4 := Lib.hid (pure_below HB4.out hb)
  clear hb x0 x1 x2 x3
  have x0 := cell0 HX.out
  have x1 := cell1 HX.out
  have x2 := cell2 HX.out
  have x3 := cell3 HX.out
  go_wp2_with fail
  go_at_call 32
  refine (HS.out.uints 0 10 (by simp) (by simp)).mono ?_
  rintro e w6 ⟨rfl, hb⟩
  replace HB4 := Lib.hid (pure_below HB4.out hb)
  clear hb x0 x1 x2 x3
  go_wp2_with fail
  go_ret
  exact ⟨rfl, HB4.out⟩
set_option maxRecDepth 100000 in
set_option maxHeartbeats 1000000 in
theorem holds_4p (u : Nat) (k a : Int) (w : World) (hu : u < 9223372036854775808) (hk : k % 6 = 4) : Calls Tryz.prog 5 #[.int .u64 (u : Int), .int .i64 k, .int .i64 a] w fun e w' => e = .returned (.bool true) ∧ Below w.heap.size w w' := by
  have HBR := Lib.hid (fun (w : World) => show Calls Tryz.prog 14 #[.int .i64 k, .int .i64 6] w fun e w' => e = .returned (.int .i64 4) ∧ w = w' by have h := bring_spec k 6 w (by omega) (by omega); rw [hk] at h; exact h)
  have hw : wrap64 (u : Int) = (u : Int) := by unfold wrap64; omega
  have HBU := Lib.hid (fun (w : World) => show Calls Tryz.prog 29 #[.int .i64 8, .int .u64 (u : Int), .int .i64 a] w (BuiltW w 8 false u) by
    have h := built_8 u a w (by omega)
    rw [hw] at h
    have e1 : numNeg 8 (u : Int) = false := decide_eq_false (by omega)
    have e2 : numMag 8 (u : Int) 0 = u := by unfold numMag; rw [if_neg (by omega), if_pos (by omega)]; omega
    rw [e1, e2] at h
    exact h)
  have hlt : decide ((u : Int) < 0) = false := decide_eq_false (by omega)
  have HTOP := Lib.hid (show top63 u = false from decide_eq_false (by omega))
  obtain ⟨b, hb0⟩ : ∃ b, ((u : Int) != 0) = b := ⟨_, rfl⟩
  have HNE := Lib.hid hb0
  clear hk hu
  cases b with
  | true =>
    go_enter Tryz.func5, Tryz.ntmps5
    go_wp2_with fail
    go_at_call 28
    refine (scworks_spec _).mono ?_
    rintro e w1 ⟨rfl, hb⟩
    have HB1 := Lib.hid hb
    clear hb
    go_wp2_with fail
    go_at_call 14
    refine (HBR.out _).mono ?_
    rintro e w' ⟨rfl, rfl⟩
    have HB2 := Lib.hid (HB1.out.alloc HB1.out.size (.cells #[.int .i64 1, .int .i64 2, .int .i64 3, .int .i64 4, .int .i64 8, .int .i64 9] 3))
    go_wp2_with fail
    go_at_call 29
    refine (built_is (HBU.out _)).mono ?_
    rintro e w2 ⟨A, n, c, L, p, q, t, v, rfl, hS, hb⟩
    have HB3 := Lib.hid (pure_below HB2.out hb)
    have hA3 := (Below.refl w2.heap.size w2).alloc (Nat.le_refl _) (.cells #[.int .i64 p, .int .i64 q, .int .i64 t, .int .i64 v] 36)
    have HS := Lib.hid (hS.pure hA3)
    have HX := Lib.hid (Blk.new w2 36 #[.int .i64 p, .int .i64 q, .int .i64 t, .int .i64 v])
    have HB4 := Lib.hid (pure_below HB3.out hA3)
    clear hS hb hA3
    go_wp2_with fail
    go_at_call 17
    refine (kind_is2 p q t v 8 _ HS.out.kind).mono ?_
    rintro e w3 ⟨rfl, hb⟩
    replace HS := Lib.hid (HS.out.pure hb)
    replace HX := Lib.hid (HX.out.pure hb)
    replace HB4 := Lib.hid (pure_below HB4.out hb)
    have x0 := cell0 HX.out
    have x1 := cell1 HX.out
    have x2 := cell2 HX.out
    have x3 := cell3 HX.out
    clear hb
    go_wp2_with fail
    go_at_call 30
    refine (HS.out.bool true HNE.out).mono ?_
    rintro e w4 ⟨rfl, hb⟩
    replace HS := Lib.hid (HS.out.pure hb)
    replace HX := Lib.hid (HX.out.pure hb)
    replace HB4 := Lib.hid (pure_below HB4.out hb)
    clear hb x0 x1 x2 x3
    have x0 := cell0 HX.out
    have x1 := cell1 HX.out
    have x2 := cell2 HX.out
    have x3 := cell3 HX.out
    go_wp2_with fail
    go_at_call 31
    refine (HS.out.ints (u : Int) 0 (by rw [HTOP.out]; rfl) (by rw [HTOP.out]; rfl)).mono ?_
    rintro e w5 ⟨rfl, hb⟩
    replace HS := Lib.hid (HS.out.pure hb)
    replace HX := Lib.hid (HX.out.pure hb)
    replace HB4 := Lib.hid (pure_below HB4.out hb)
    clear hb x0 x1 x2 x3
    have x0 := cell0 HX.out
    have x1 := cell1 HX.out
    have x2 := cell2 HX.out
    have x3 := cell3 HX.out
    go_wp2_with fail
    go_at_call 32
    refine (HS.out.uints (u : Int) 0 rfl rfl).mono ?_
    rintro e w6 ⟨rfl, hb⟩
    replace HB4 := Lib.hid (pure_below HB4.out hb)
    clear hb x0 x1 x2 x3
    go_wp2_with fail
    go_ret
    exact ⟨rfl, HB4.out⟩
  | false =>
    go_enter Tryz.func5, Tryz.ntmps5
    go_wp2_with fail
    go_at_call 28
    refine (scworks_spec _).mono ?_
    rintro e w1 ⟨rfl, hb⟩
    have HB1 := Lib.hid hb
    clear hb
    go_wp2_with fail
    go_at_call 14
    refine (HBR.out _).mono ?_
    rintro e w' ⟨rfl, rfl⟩
    have HB2 := Lib.hid (HB1.out.alloc HB1.out.size (.cells #[.int .i64 1, .int .i64 2, .int .i64 3, .int .i64 4, .int .i64 8, .int .i64 9] 3))
    go_wp2_with fail
    go_at_call 29
    refine (built_is (HBU.out _)).mono ?_
    rintro e w2 ⟨A, n, c, L, p, q, t, v, rfl, hS, hb⟩
    have HB3 := Lib.hid (pure_below HB2.out hb)
    have hA3 := (Below.refl w2.heap.size w2).alloc (Nat.le_refl _) (.cells #[.int .i64 p, .int .i64 q, .int .i64 t, .int .i64 v] 36)
    have HS := Lib.hid (hS.pure hA3)
    have HX := Lib.hid (Blk.new w2 36 #[.int .i64 p, .int .i64 q, .int .i64 t, .int .i64 v])
    have HB4 := Lib.hid (pure_below HB3.out hA3)
    clear hS hb hA3
    go_wp2_with fail
    go_at_call 17
    refine (kind_is2 p q t v 8 _ HS.out.kind).mono ?_
    rintro e w3 ⟨rfl, hb⟩
    replace HS := Lib.hid (HS.out.pure hb)
    replace HX := Lib.hid (HX.out.pure hb)
    replace HB4 := Lib.hid (pure_below HB4.out hb)
    have x0 := cell0 HX.out
    have x1 := cell1 HX.out
    have x2 := cell2 HX.out
    have x3 := cell3 HX.out
    clear hb
    go_wp2_with fail
    go_at_call 30
    refine (HS.out.bool false HNE.out).mono ?_
    rintro e w4 ⟨rfl, hb⟩
    replace HS := Lib.hid (HS.out.pure hb)
    replace HX := Lib.hid (HX.out.pure hb)
    replace HB4 := Lib.hid (pure_below HB4.out hb)
    clear hb x0 x1 x2 x3
    have x0 := cell0 HX.out
    have x1 := cell1 HX.out
    have x2 := cell2 HX.out
    have x3 := cell3 HX.out
    go_wp2_with fail
    go_at_call 31
    refine (HS.out.ints (u : Int) 0 (by rw [HTOP.out]; rfl) (by rw [HTOP.out]; rfl)).mono ?_
    rintro e w5 ⟨rfl, hb⟩
    replace HS := Lib.hid (HS.out.pure hb)
    replace HX := Lib.hid (HX.out.pure hb)
    replace HB4 := Lib.hid (pure_below HB4.out hb)
    clear hb x0 x1 x2 x3
    have x0 := cell0 HX.out
    have x1 := cell1 HX.out
    have x2 := cell2 HX.out
    have x3 := cell3 HX.out
    go_wp2_with fail
    go_at_call 32
    refine (HS.out.uints (u : Int) 0 rfl rfl).mono ?_
    rintro e w6 ⟨rfl, hb⟩
    replace HB4 := Lib.hid (pure_below HB4.out hb)
    clear hb x0 x1 x2 x3
    go_wp2_with fail
    go_ret
    exact ⟨rfl, HB4.out⟩
end Go.Proofs.YtjhigmgkmmjlfaaGreat
