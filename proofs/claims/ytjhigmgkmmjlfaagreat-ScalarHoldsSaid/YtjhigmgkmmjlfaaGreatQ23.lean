/-
  Package scalar: the examples of the chapter; the property ScalarReads.
  Package scalar: the property ScalarReads.
  Package scalar: the property ScalarOne.
-/
import Derived.Test.YtjhigmgkmmjlfaaGreatQ22
namespace Go.Proofs.YtjhigmgkmmjlfaaGreat
open Go.RowKit Go.Acc
set_option maxHeartbeats 400000 in
theorem of22_spec (p q t v : Int) (w : World) : Calls Tryz.prog 67 #[.int .i64 p, .int .i64 q, .int .i64 t, .int .i64 v] w fun e w' => e = .returned (.agg #[.int .i64 p, .int .i64 q, .int .i64 t, .int .i64 v]) ∧ Below w.heap.size w w' := by
  go_enter Tryz.func67, Tryz.ntmps67
  go_wp2
  refine bodyPost_ret (v := .agg #[.int .i64 p, .int .i64 q, .int .i64 t, .int .i64 v]) (by simp [results, Tryz.results67, go_sem]) rfl ⟨rfl, ?_⟩
  exact (Below.refl _ _).alloc (Nat.le_refl _) _
set_option maxHeartbeats 400000 in
theorem ints_yes (A : Option Addr) (n c : Nat) (p q t v : Int) (l : List UInt8) (x er : Int) (w : World) (h : IsB w A n l) (hc : n ≤ c) (hn : n ≤ 9223372036854775807) (h1 : intV l p q t v = x) (h2 : intE l p q t v = er) :
    Calls Tryz.prog 31 #[.slice A n c, .agg #[.int .i64 p, .int .i64 q, .int .i64 t, .int .i64 v], .int .i64 x, .int .i64 er] w fun e w' => e = .returned (.bool true) ∧ Below w.heap.size w w' := by
  have HL := Lib.hid (h.alloc (.cells #[.int .i64 p, .int .i64 q, .int .i64 t, .int .i64 v] 36))
  have HB := Lib.hid ((Below.refl w.heap.size w).alloc (Nat.le_refl _) (.cells #[.int .i64 p, .int .i64 q, .int .i64 t, .int .i64 v] 36))
  have H1 := Lib.hid h1
  have H2 := Lib.hid h2
  clear h h1 h2
  go_enter Tryz.func31, Tryz.ntmps31
  go_wp2_with fail
  go_at_call 38
  refine (sint_spec A n c p q t v l _ HL.out hc hn).mono ?_
  rw [H1.out, H2.out]
  rintro e w1 ⟨rfl, hb⟩
  have HB := Lib.hid (pure_below HB.out hb)
  clear hb
  go_wp2
  go_ret
  exact ⟨rfl, HB.out⟩
set_option maxHeartbeats 400000 in
theorem uints_yes (A : Option Addr) (n c : Nat) (p q t v : Int) (l : List UInt8) (x er : Int) (w : World) (h : IsB w A n l) (hc : n ≤ c) (hn : n ≤ 9223372036854775807) (h1 : (uintV l p q t v : Int) = x) (h2 : uintE l p q t v = er) :
    Calls Tryz.prog 32 #[.slice A n c, .agg #[.int .i64 p, .int .i64 q, .int .i64 t, .int .i64 v], .int .u64 x, .int .i64 er] w fun e w' => e = .returned (.bool true) ∧ Below w.heap.size w w' := by
  have HL := Lib.hid (h.alloc (.cells #[.int .i64 p, .int .i64 q, .int .i64 t, .int .i64 v] 36))
  have HB := Lib.hid ((Below.refl w.heap.size w).alloc (Nat.le_refl _) (.cells #[.int .i64 p, .int .i64 q, .int .i64 t, .int .i64 v] 36))
  have H1 := Lib.hid h1
  have H2 := Lib.hid h2
  clear h h1 h2
  go_enter Tryz.func32, Tryz.ntmps32
  go_wp2_with fail
  go_at_call 39
  refine (suint_spec A n c p q t v l _ HL.out hc hn).mono ?_
  rw [H1.out, H2.out]
  rintro e w1 ⟨rfl, hb⟩
  have HB := Lib.hid (pure_below HB.out hb)
  clear hb
  go_wp2
  go_ret
  exact ⟨rfl, HB.out⟩
theorem bool_is (A : Option Addr) (n c : Nat) (p q t v : Int) (l : List UInt8) (b : Bool) (er : Int) (w : World) (h : IsB w A n l) (hc : n ≤ c) (hn : n ≤ 9223372036854775807) (h1 : boolV l p q t v = b) (h2 : plcE l p q t v = er) :
    Calls Tryz.prog 30 #[.slice A n c, .agg #[.int .i64 p, .int .i64 q, .int .i64 t, .int .i64 v]] w fun e w' => e = .returned (.tuple #[.bool b, .int .i64 er]) ∧ Below w.heap.size w w' := by
  subst h1 h2
  exact sbool_spec A n c p q t v l w h hc hn
theorem plc_is (A : Option Addr) (n c : Nat) (p q t v : Int) (l : List UInt8) (a x er : Int) (w : World) (h : IsB w A n l) (hc : n ≤ c) (hn : n ≤ 9223372036854775807) (h0 : plcA l p q t v = a) (h1 : plcW l p q t v = x) (h2 : plcE l p q t v = er) :
    Calls Tryz.prog 68 #[.slice A n c, .agg #[.int .i64 p, .int .i64 q, .int .i64 t, .int .i64 v]] w fun e w' => e = .returned (.tuple #[.int .i64 a, .int .i64 x, .int .i64 er]) ∧ Below w.heap.size w w' := by
  subst h0 h1 h2
  exact splace_spec A n c p q t v l w h hc hn
set_option maxRecDepth 100000 in
set_option maxHeartbeats 4000000 in
theorem scworks_spec (w : World) : Calls Tryz.prog 28 #[] w fun e w' => e = .returned (.bool true) ∧ Below w.heap.size w w' := by
  have HX := Lib.hid (isb_lit w #[.int .u8 254, .int .u8 4, .int .u8 1] [254, 4, 1] 3 rfl rfl)
  have HB := Lib.hid ((Below.refl w.heap.size w).alloc (Nat.le_refl _) (.cells #[.int .u8 254, .int .u8 4, .int .u8 1] 5))
  go_enter Tryz.func28, Tryz.ntmps28
  go_wp2_with fail
  go_at_call 67
  refine (of22_spec 0 1 1 1 _).mono ?_
  rintro e wn ⟨rfl, hb⟩
  replace HB := Lib.hid (pure_below HB.out hb)
  replace HX := Lib.hid (HX.out.pure hb)
  clear hb
  go_wp2_with fail
  go_at_call 30
  refine (bool_is _ 3 3 0 1 1 1 [254, 4, 1] true 0 _ HX.out (by decide) (by decide) (by decide) (by decide)).mono ?_
  rintro e wn ⟨rfl, hb⟩
  replace HB := Lib.hid (pure_below HB.out hb)
  replace HX := Lib.hid (HX.out.pure hb)
  clear hb
  go_wp2_with fail
  go_at_call 67
  refine (of22_spec 0 1 1 1 _).mono ?_
  rintro e wn ⟨rfl, hb⟩
  replace HB := Lib.hid (pure_below HB.out hb)
  replace HX := Lib.hid (HX.out.pure hb)
  clear hb
  go_wp2_with fail
  go_at_call 31
  refine (ints_yes _ 3 3 0 1 1 1 [254, 4, 1] (-2) 0 _ HX.out (by decide) (by decide) (by decide) (by decide)).mono ?_
  rintro e wn ⟨rfl, hb⟩
  replace HB := Lib.hid (pure_below HB.out hb)
  replace HX := Lib.hid (HX.out.pure hb)
  clear hb
  go_wp2_with fail
  go_at_call 67
  refine (of22_spec 0 1 1 1 _).mono ?_
  rintro e wn ⟨rfl, hb⟩
  replace HB := Lib.hid (pure_below HB.out hb)
  replace HX := Lib.hid (HX.out.pure hb)
  clear hb
  go_wp2_with fail
  go_at_call 32
  refine (uints_yes _ 3 3 0 1 1 1 [254, 4, 1] 0 10 _ HX.out (by decide) (by decide) (by decide) (by decide)).mono ?_
  rintro e wn ⟨rfl, hb⟩
  replace HB := Lib.hid (pure_below HB.out hb)
  replace HX := Lib.hid (HX.out.pure hb)
  clear hb
  go_wp2_with fail
  replace HX : Hid (IsB (wn.alloc (.cells #[.int .u8 254, .int .u8 8, .int .u8 1] 5)) (some ⟨wn.heap.size, 0, none⟩) 3 [254, 8, 1]) := Lib.hid (isb_lit wn #[.int .u8 254, .int .u8 8, .int .u8 1] [254, 8, 1] 3 rfl rfl)
  replace HB := Lib.hid (HB.out.alloc HB.out.size (.cells #[.int .u8 254, .int .u8 8, .int .u8 1] 5))
  go_wp2_with fail
  go_at_call 67
  refine (of22_spec 0 1 2 1 _).mono ?_
  rintro e wn ⟨rfl, hb⟩
  replace HB := Lib.hid (pure_below HB.out hb)
  replace HX := Lib.hid (HX.out.pure hb)
  clear hb
  go_wp2_with fail
  go_at_call 31
  refine (ints_yes _ 3 3 0 1 2 1 [254, 8, 1] 254 0 _ HX.out (by decide) (by decide) (by decide) (by decide)).mono ?_
  rintro e wn ⟨rfl, hb⟩
  replace HB := Lib.hid (pure_below HB.out hb)
  replace HX := Lib.hid (HX.out.pure hb)
  clear hb
  go_wp2_with fail
  replace HX : Hid (IsB (wn.alloc (.cells #[.int .u8 2] 5)) (some ⟨wn.heap.size, 0, none⟩) 1 [2]) := Lib.hid (isb_lit wn #[.int .u8 2] [2] 1 rfl rfl)
  replace HB := Lib.hid (HB.out.alloc HB.out.size (.cells #[.int .u8 2] 5))
  go_wp2_with fail
  go_at_call 67
  refine (of22_spec 0 1 26 1 _).mono ?_
  rintro e wn ⟨rfl, hb⟩
  replace HB := Lib.hid (pure_below HB.out hb)
  replace HX := Lib.hid (HX.out.pure hb)
  clear hb
  go_wp2_with fail
  go_at_call 31
  refine (ints_yes _ 1 1 0 1 26 1 [2] 1 0 _ HX.out (by decide) (by decide) (by decide) (by decide)).mono ?_
  rintro e wn ⟨rfl, hb⟩
  replace HB := Lib.hid (pure_below HB.out hb)
  replace HX := Lib.hid (HX.out.pure hb)
  clear hb
  go_wp2_with fail
  replace HX : Hid (IsB (wn.alloc (.cells #[.int .u8 7] 5)) (some ⟨wn.heap.size, 0, none⟩) 1 [7]) := Lib.hid (isb_lit wn #[.int .u8 7] [7] 1 rfl rfl)
  replace HB := Lib.hid (HB.out.alloc HB.out.size (.cells #[.int .u8 7] 5))
  go_wp2_with fail
  go_at_call 67
  refine (of22_spec 0 1 0 4 _).mono ?_
  rintro e wn ⟨rfl, hb⟩
  replace HB := Lib.hid (pure_below HB.out hb)
  replace HX := Lib.hid (HX.out.pure hb)
  clear hb
  go_wp2_with fail
  go_at_call 32
  refine (uints_yes _ 1 1 0 1 0 4 [7] 0 0 _ HX.out (by decide) (by decide) (by decide) (by decide)).mono ?_
  rintro e wn ⟨rfl, hb⟩
  replace HB := Lib.hid (pure_below HB.out hb)
  replace HX := Lib.hid (HX.out.pure hb)
  clear hb
  go_wp2_with fail
  replace HX : Hid (IsB (wn.alloc (.cells #[.int .u8 44, .int .u8 1, .int .u8 2, .int .u8 25, .int .u8 1] 5)) (some ⟨wn.heap.size, 0, none⟩) 5 [44, 1, 2, 25, 1]) := Lib.hid (isb_lit wn #[.int .u8 44, .int .u8 1, .int .u8 2, .int .u8 25, .int .u8 1] [44, 1, 2, 25, 1] 5 rfl rfl)
  replace HB := Lib.hid (HB.out.alloc HB.out.size (.cells #[.int .u8 44, .int .u8 1, .int .u8 2, .int .u8 25, .int .u8 1] 5))
  go_wp2_with fail
  go_at_call 67
  refine (of22_spec 2 1 6 2 _).mono ?_
  rintro e wn ⟨rfl, hb⟩
  replace HB := Lib.hid (pure_below HB.out hb)
  replace HX := Lib.hid (HX.out.pure hb)
  clear hb
  go_wp2_with fail
  go_at_call 68
  refine (plc_is _ 5 5 2 1 6 2 [44, 1, 2, 25, 1] 0 2 0 _ HX.out (by decide) (by decide) (by decide) (by decide) (by decide)).mono ?_
  rintro e wn ⟨rfl, hb⟩
  replace HB := Lib.hid (pure_below HB.out hb)
  replace HX := Lib.hid (HX.out.pure hb)
  clear hb
  go_wp2_with fail
  go_at_call 67
  refine (of22_spec 2 1 6 2 _).mono ?_
  rintro e wn ⟨rfl, hb⟩
  replace HB := Lib.hid (pure_below HB.out hb)
  replace HX := Lib.hid (HX.out.pure hb)
  clear hb
  go_wp2_with fail
  go_at_call 31
  refine (ints_yes _ 5 5 2 1 6 2 [44, 1, 2, 25, 1] 300 0 _ HX.out (by decide) (by decide) (by decide) (by decide)).mono ?_
  rintro e wn ⟨rfl, hb⟩
  replace HB := Lib.hid (pure_below HB.out hb)
  replace HX := Lib.hid (HX.out.pure hb)
  clear hb
  go_wp2_with fail
  replace HX : Hid (IsB (wn.alloc (.cells #[.int .u8 0, .int .u8 44, .int .u8 1, .int .u8 2] 5)) (some ⟨wn.heap.size, 0, none⟩) 4 [0, 44, 1, 2]) := Lib.hid (isb_lit wn #[.int .u8 0, .int .u8 44, .int .u8 1, .int .u8 2] [0, 44, 1, 2] 4 rfl rfl)
  replace HB := Lib.hid (HB.out.alloc HB.out.size (.cells #[.int .u8 0, .int .u8 44, .int .u8 1, .int .u8 2] 5))
  go_wp2_with fail
  go_at_call 67
  refine (of22_spec 3 1 6 2 _).mono ?_
  rintro e wn ⟨rfl, hb⟩
  replace HB := Lib.hid (pure_below HB.out hb)
  replace HX := Lib.hid (HX.out.pure hb)
  clear hb
  go_wp2_with fail
  go_at_call 31
  refine (ints_yes _ 4 4 3 1 6 2 [0, 44, 1, 2] 0 212 _ HX.out (by decide) (by decide) (by decide) (by decide)).mono ?_
  rintro e wn ⟨rfl, hb⟩
  replace HB := Lib.hid (pure_below HB.out hb)
  replace HX := Lib.hid (HX.out.pure hb)
  clear hb
  go_wp2_with fail
  replace HX : Hid (IsB (wn.alloc (.cells #[.int .u8 0, .int .u8 1] 5)) (some ⟨wn.heap.size, 0, none⟩) 2 [0, 1]) := Lib.hid (isb_lit wn #[.int .u8 0, .int .u8 1] [0, 1] 2 rfl rfl)
  replace HB := Lib.hid (HB.out.alloc HB.out.size (.cells #[.int .u8 0, .int .u8 1] 5))
  go_wp2_with fail
  go_at_call 67
  refine (of22_spec 1 1 7 4 _).mono ?_
  rintro e wn ⟨rfl, hb⟩
  replace HB := Lib.hid (pure_below HB.out hb)
  replace HX := Lib.hid (HX.out.pure hb)
  clear hb
  go_wp2_with fail
  go_at_call 31
  refine (ints_yes _ 2 2 1 1 7 4 [0, 1] 0 211 _ HX.out (by decide) (by decide) (by decide) (by decide)).mono ?_
  rintro e wn ⟨rfl, hb⟩
  replace HB := Lib.hid (pure_below HB.out hb)
  replace HX := Lib.hid (HX.out.pure hb)
  clear hb
  go_wp2_with fail
  replace HX : Hid (IsB (wn.alloc (.cells #[.int .u8 1, .int .u8 120, .int .u8 0, .int .u8 2] 5)) (some ⟨wn.heap.size, 0, none⟩) 4 [1, 120, 0, 2]) := Lib.hid (isb_lit wn #[.int .u8 1, .int .u8 120, .int .u8 0, .int .u8 2] [1, 120, 0, 2] 4 rfl rfl)
  replace HB := Lib.hid (HB.out.alloc HB.out.size (.cells #[.int .u8 1, .int .u8 120, .int .u8 0, .int .u8 2] 5))
  go_wp2_with fail
  go_at_call 67
  refine (of22_spec 3 1 5 1 _).mono ?_
  rintro e wn ⟨rfl, hb⟩
  replace HB := Lib.hid (pure_below HB.out hb)
  replace HX := Lib.hid (HX.out.pure hb)
  clear hb
  go_wp2_with fail
  go_at_call 31
  refine (ints_yes _ 4 4 3 1 5 1 [1, 120, 0, 2] 0 60 _ HX.out (by decide) (by decide) (by decide) (by decide)).mono ?_
  rintro e wn ⟨rfl, hb⟩
  replace HB := Lib.hid (pure_below HB.out hb)
  replace HX := Lib.hid (HX.out.pure hb)
  clear hb
  go_wp2_with fail
  replace HX : Hid (IsB (wn.alloc (.cells #[.int .u8 255, .int .u8 255, .int .u8 255, .int .u8 255, .int .u8 255, .int .u8 255, .int .u8 255, .int .u8 255] 5)) (some ⟨wn.heap.size, 0, none⟩) 8 [255, 255, 255, 255, 255, 255, 255, 255]) := Lib.hid (isb_lit wn #[.int .u8 255, .int .u8 255, .int .u8 255, .int .u8 255, .int .u8 255, .int .u8 255, .int .u8 255, .int .u8 255] [255, 255, 255, 255, 255, 255, 255, 255] 8 rfl rfl)
  replace HB := Lib.hid (HB.out.alloc HB.out.size (.cells #[.int .u8 255, .int .u8 255, .int .u8 255, .int .u8 255, .int .u8 255, .int .u8 255, .int .u8 255, .int .u8 255] 5))
  go_wp2_with fail
  go_at_call 67
  refine (of22_spec 0 8 2 8 _).mono ?_
  rintro e wn ⟨rfl, hb⟩
  replace HB := Lib.hid (pure_below HB.out hb)
  replace HX := Lib.hid (HX.out.pure hb)
  clear hb
  go_wp2_with fail
  go_at_call 31
  refine (ints_yes _ 8 8 0 8 2 8 [255, 255, 255, 255, 255, 255, 255, 255] 0 10 _ HX.out (by decide) (by decide) (by decide) (by decide)).mono ?_
  rintro e wn ⟨rfl, hb⟩
  replace HB := Lib.hid (pure_below HB.out hb)
  replace HX := Lib.hid (HX.out.pure hb)
  clear hb
  go_wp2_with fail
  go_at_call 67
  refine (of22_spec 0 8 2 8 _).mono ?_
  rintro e wn ⟨rfl, hb⟩
  replace HB := Lib.hid (pure_below HB.out hb)
  replace HX := Lib.hid (HX.out.pure hb)
  clear hb
  go_wp2_with fail
  go_at_call 32
  refine (uints_yes _ 8 8 0 8 2 8 [255, 255, 255, 255, 255, 255, 255, 255] 18446744073709551615 0 _ HX.out (by decide) (by decide) (by decide) (by decide)).mono ?_
  rintro e wn ⟨rfl, hb⟩
  replace HB := Lib.hid (pure_below HB.out hb)
  replace HX := Lib.hid (HX.out.pure hb)
  clear hb
  go_wp2
  go_ret
  exact ⟨rfl, HB.out⟩
end Go.Proofs.YtjhigmgkmmjlfaaGreat

namespace Go.Proofs.YtjhigmgkmmjlfaaGreat
open Go.RowKit Go.Acc
open Go.ChangeShapes Go.WideShapes Go.ChangeAt
end Go.Proofs.YtjhigmgkmmjlfaaGreat

namespace Go.Proofs.YtjhigmgkmmjlfaaGreat
open Go.RowKit Go.Acc
theorem one_cases (l : List UInt8) (p q t v : Int) :
    (plcE l p q t v ≠ 0 ∧ intV l p q t v = 0 ∧ intE l p q t v = plcE l p q t v ∧ (uintV l p q t v : Int) = 0 ∧ uintE l p q t v = plcE l p q t v ∧ boolV l p q t v = false) ∨
    (plcE l p q t v = 0 ∧ ∃ U : Nat, 1 ≤ U ∧ intV l p q t v = -(U : Int) ∧ intE l p q t v = 0 ∧ (uintV l p q t v : Int) = 0 ∧ uintE l p q t v = 10 ∧ boolV l p q t v = true) ∨
    (plcE l p q t v = 0 ∧ ∃ U : Nat, top63 U = true ∧ intV l p q t v = 0 ∧ intE l p q t v = 10 ∧ (uintV l p q t v : Int) = U ∧ uintE l p q t v = 0 ∧ boolV l p q t v = true) ∨
    (plcE l p q t v = 0 ∧ ∃ U : Nat, top63 U = false ∧ intV l p q t v = U ∧ intE l p q t v = 0 ∧ (uintV l p q t v : Int) = U ∧ uintE l p q t v = 0 ∧ boolV l p q t v = ((U : Int) != 0)) := by
  unfold intV intE uintV uintE boolV
  by_cases he : plcE l p q t v = 0
  · rw [he]
    cases hn : scN l p q t v with
    | true =>
      obtain ⟨_, h1, _⟩ := sc_neg hn
      refine .inr (.inl ⟨rfl, _, h1, rfl, rfl, rfl, rfl, ?_⟩)
      rw [bne_iff_ne]
      omega
    | false =>
      cases ht : top63 (scU l p q t v) with
      | true =>
        refine .inr (.inr (.inl ⟨rfl, _, ht, rfl, rfl, rfl, rfl, ?_⟩))
        unfold top63 at ht
        rw [decide_eq_true_eq] at ht
        rw [bne_iff_ne]
        omega
      | false => exact .inr (.inr (.inr ⟨rfl, _, ht, rfl, rfl, rfl, rfl, rfl⟩))
  · obtain ⟨h1, h2⟩ := sc_bad he
    rw [h1, h2, if_pos he, if_pos he]
    exact .inl ⟨he, rfl, rfl, rfl, rfl, rfl⟩
theorem int_is (A : Option Addr) (n c : Nat) (p q t v : Int) (l : List UInt8) (x er : Int) (w : World) (h : IsB w A n l) (hc : n ≤ c) (hn : n ≤ 9223372036854775807) (h1 : intV l p q t v = x) (h2 : intE l p q t v = er) :
    Calls Tryz.prog 38 #[.slice A n c, .agg #[.int .i64 p, .int .i64 q, .int .i64 t, .int .i64 v]] w fun e w' => e = .returned (.tuple #[.int .i64 x, .int .i64 er]) ∧ Below w.heap.size w w' := by
  subst h1 h2
  exact sint_spec A n c p q t v l w h hc hn
theorem uint_is (A : Option Addr) (n c : Nat) (p q t v : Int) (l : List UInt8) (x er : Int) (w : World) (h : IsB w A n l) (hc : n ≤ c) (hn : n ≤ 9223372036854775807) (h1 : (uintV l p q t v : Int) = x) (h2 : uintE l p q t v = er) :
    Calls Tryz.prog 39 #[.slice A n c, .agg #[.int .i64 p, .int .i64 q, .int .i64 t, .int .i64 v]] w fun e w' => e = .returned (.tuple #[.int .u64 x, .int .i64 er]) ∧ Below w.heap.size w w' := by
  subst h1 h2
  exact suint_spec A n c p q t v l w h hc hn
open Go.ChangeShapes Go.WideShapes Go.ChangeAt
end Go.Proofs.YtjhigmgkmmjlfaaGreat
